/-
  Several texts of this claim in one: ShakeMix, ShakeBegin, ShakeParts.
-/
import Derived.Test.YtcmncdaojmkfgaaGreatDoorR41
import Derived.Test.YtcmncdaojmkfgaaGreatDoorR28
import Derived.Test.YtcmncdaojmkfgaaGreatDoorR16
import Derived.Test.YtcmncdaojmkfgaaGreatDoorQ02
namespace Go.Proofs.YtcmncdaojmkfgaaGreatDoor
open Go.RowKit
set_option linter.unusedVariables false

/-- A mixer in its block: all well. -/
def MxAt (w : World) (m b : Nat) : Prop := Blk w m 69 [.pointer (some ⟨b, 0, none⟩), .int .i64 0]
/-- What two blocks beyond a world are, and their world. -/
structure Mx (w0 w : World) (m b s : Nat) (x : NS) : Prop where
  mx : MxAt w m b
  st : NAt w b s x
  ne : m ≠ b
  g : w0.grownBy w none
  lm : w0.heap.size ≤ m
  lb : w0.heap.size ≤ b
theorem Mx.cells {w0 w : World} {m b s : Nat} {x : NS} (h : Mx w0 w m b s x) : w.cell? ⟨m, 0, none⟩ = some (.pointer (some ⟨b, 0, none⟩)) ∧ w.cell? ⟨m, 1, none⟩ = some (.int .i64 0) ∧ w.frozen? ⟨m, 1, none⟩ = false := ⟨Blk.cell h.mx 0, Blk.cell h.mx 1, Blk.frozen h.mx 1⟩
theorem Mx.new {w0 w w' : World} {m b s : Nat} {x : NS} (h : Mx w0 w m b s x) (g : w.grownBy w' none) : Mx w0 w' m b s x := ⟨Blk.kept h.mx g (by simp), h.st.kept g (by simp), h.ne, grow_trans h.g g, h.lm, h.lb⟩
theorem Mx.step {w0 w w' : World} {m b s : Nat} {x y : NS} (h : Mx w0 w m b s x) (hy : NAt w' b s y) (g : w.grownBy w' (some b)) : Mx w0 w' m b s y := ⟨Blk.kept h.mx g (by simp; exact h.ne), hy, h.ne, grow_trans_new h.g g h.lb, h.lm, h.lb⟩
theorem Mx.well {w0 w : World} {m b s : Nat} {x : NS} (h : Mx w0 w m b s x) : Mx w0 (w.setCell ⟨m, 1, none⟩ (.int .i64 0)) m b s x :=
  ⟨Blk.set h.mx 1 (.int .i64 0), h.st.kept (grow_setCell (grow_refl w (some m)) 1 _) (fun e => h.ne (Option.some.inj e).symm), h.ne, grow_trans_new h.g (grow_setCell (grow_refl w (some m)) 1 _) h.lm, h.lm, h.lb⟩
/-- A method of the mixer ends so. -/
def MxTo (w0 : World) (m b s : Nat) (v : Value) (x : NS) (e : Ending) (w' : World) : Prop := e = .returned v ∧ Mx w0 w' m b s x

set_option maxHeartbeats 1000000 in
theorem code_sboth (w0 w : World) (m b s : Nat) (h12 : s = 1 ∨ s = 2) (x : NS) (o : x.ok) (t : List UInt8) (ht : t.length ≤ 9223372036854774000) (h : Mx w0 w m b s x) :
    Calls Tryz.prog 22 #[.pointer (some ⟨m, 0, none⟩), S t] w (MxTo w0 m b s (.tuple #[]) (x.both s t)) := by
  obtain ⟨c0, c1, f1⟩ := h.cells
  have A1 := n_mixhash w b s h12 x o t ht h.st
  have A2 := fun (W : World) (hW : NAt W b s (x.hash s t)) => n_mixkey W b s h12 (x.hash s t) (o.hash t) t ht hW
  have H := Lib.hid h
  unfold NS.both
  unfold MixedN at A1 A2
  generalize x.hash s t = y at *
  generalize y.key s t = z at *
  clear o ht h h12
  unfold S at *
  go_enter Tryz.func22, Tryz.ntmps22
  go_wp2_with fail
  (with_reducible refine A1.mono ?_)
  rintro e w1 ⟨rfl, hs, hg⟩
  have H1 := Lib.hid (H.out.step hs hg)
  obtain ⟨d0, d1, g1⟩ := H1.out.cells
  have B2 := A2 w1 hs
  clear A1 A2 hs hg c0 c1 f1
  go_wp2_with fail
  (with_reducible refine B2.mono ?_)
  rintro e w2 ⟨rfl, hs, hg⟩
  have H2 := Lib.hid (H1.out.step hs hg)
  clear B2 hs hg d0 d1 g1
  go_wp2_with fail
  go_end0
  exact ⟨rfl, H2.out⟩

set_option maxHeartbeats 1000000 in
theorem code_ssecret (w0 w : World) (m b s : Nat) (h12 : s = 1 ∨ s = 2) (x : NS) (o : x.ok) (k u : List UInt8) (hk : k.length = 32) (hu : u.length = 32) (hne : multL k u ≠ leB 0 32) (h : Mx w0 w m b s x) :
    Calls Tryz.prog 23 #[.pointer (some ⟨m, 0, none⟩), S k, S u] w (MxTo w0 m b s (.tuple #[]) (x.key s (multL k u))) := by
  obtain ⟨c0, c1, f1⟩ := h.cells
  have A1 := code_cshareN w k u hk hu hne
  have A2 := fun (W : World) (hW : NAt W b s x) => n_mixkey W b s h12 x o (multL k u) (by rw [multL_length]; omega) hW
  have H := Lib.hid h
  unfold MixedN at A2
  generalize multL k u = V at *
  generalize x.key s V = z at *
  clear o h h12 hk hu hne
  unfold S at *
  go_enter Tryz.func23, Tryz.ntmps23
  go_wp2_with fail
  (with_reducible refine A1.mono ?_)
  rintro e w1 ⟨rfl, hg⟩
  have h1 := H.out.new hg
  obtain ⟨d0, d1, g1⟩ := h1.cells
  have h2 := h1.well
  have B2 := A2 _ h2.st
  have H2 := Lib.hid h2
  obtain ⟨e0, e1, i1⟩ := H2.out.cells
  clear A1 A2 hg c0 c1 f1 h1 h2
  go_wp2_with fail
  (with_reducible refine B2.mono ?_)
  rintro e w2 ⟨rfl, hs, hg⟩
  have H3 := Lib.hid (H2.out.step hs hg)
  clear B2 hs hg
  go_wp2_with fail
  go_end0
  exact ⟨rfl, H3.out⟩

set_option maxHeartbeats 1000000 in
theorem code_sseal (w0 w : World) (m b s : Nat) (h12 : s = 1 ∨ s = 2) (x : NS) (o : x.ok) (hk : x.k.length = 32) (t : List UInt8) (ht : t.length ≤ 2000) (h : Mx w0 w m b s x) :
    Calls Tryz.prog 38 #[.pointer (some ⟨m, 0, none⟩), S t] w (MxTo w0 m b s (S (x.ct s t)) (x.sealed s t)) := by
  obtain ⟨c0, c1, f1⟩ := h.cells
  have A1 := n_seal w b s h12 x o hk t ht h.st
  have H := Lib.hid h
  unfold MixedN at A1
  generalize x.ct s t = C at *
  generalize x.sealed s t = z at *
  clear o h h12 hk ht
  unfold S at *
  go_enter Tryz.func38, Tryz.ntmps38
  go_wp2_with fail
  (with_reducible refine A1.mono ?_)
  rintro e w1 ⟨rfl, hs, hg⟩
  have h1 := H.out.step hs hg
  obtain ⟨d0, d1, g1⟩ := h1.cells
  have H2 := Lib.hid h1.well
  clear A1 hs hg c0 c1 f1 h1
  go_wp2_with fail
  go_ret
  exact ⟨rfl, H2.out⟩

set_option maxHeartbeats 1000000 in
theorem code_sopen (w0 w : World) (m b s : Nat) (h12 : s = 1 ∨ s = 2) (x : NS) (o : x.ok) (hk : x.k.length = 32) (t : List UInt8) (ht : t.length ≤ 2000) (h : Mx w0 w m b s x) :
    Calls Tryz.prog 24 #[.pointer (some ⟨m, 0, none⟩), S (x.ct s t)] w (MxTo w0 m b s (S t) (x.sealed s t)) := by
  obtain ⟨c0, c1, f1⟩ := h.cells
  have A1 := n_open w b s h12 x o hk t ht h.st
  have H := Lib.hid h
  unfold MixedN at A1
  generalize x.ct s t = C at *
  generalize x.sealed s t = z at *
  clear o h h12 hk ht
  unfold S at *
  go_enter Tryz.func24, Tryz.ntmps24
  go_wp2_with fail
  (with_reducible refine A1.mono ?_)
  rintro e w1 ⟨rfl, hs, hg⟩
  have h1 := H.out.step hs hg
  obtain ⟨d0, d1, g1⟩ := h1.cells
  have H2 := Lib.hid h1.well
  clear A1 hs hg c0 c1 f1 h1
  go_wp2_with fail
  go_ret
  exact ⟨rfl, H2.out⟩

def nameL (s : Nat) : List UInt8 := [115, 111, 117, 116, 101, 114, 114, 97, 105, 110] ++ [UInt8.ofNat s]
def begX (s : Nat) (peer : List UInt8) : NS := (begS s (nameL s)).hash s peer
theorem begX_ok (s : Nat) (h12 : s = 1 ∨ s = 2) (peer : List UInt8) : (begX s peer).ok := (begS_ok s h12 _).hash peer

set_option maxHeartbeats 1000000 in
theorem code_sbegun1 (w : World) (peer : List UInt8) (hp : peer.length ≤ 9223372036854774000) :
    Calls Tryz.prog 21 #[.int .i64 1, S peer] w (fun e w' => ∃ m b, e = .returned (.pointer (some ⟨m, 0, none⟩)) ∧ Mx w w' m b 1 (begX 1 peer)) := by
  have cv : (convert 90 9 (.slice (some ⟨w.heap.size, 0, none⟩) 1 1)).run Tryz.prog (w.alloc (.cells #[.int .u8 1] 5)) = .ok (.string ⟨#[1]⟩) (w.alloc (.cells #[.int .u8 1] 5)) := conv_byte w 1 1 rfl
  have A1 : ∀ W : World, Calls Tryz.prog 42 #[.int .i64 1, .string ⟨#[115, 111, 117, 116, 101, 114, 114, 97, 105, 110, 1]⟩] W (fun e w' => ∃ b, e = .returned (.tuple #[.pointer (some ⟨b, 0, none⟩), .int .i64 0]) ∧ NAt w' b 1 (begS 1 (nameL 1)) ∧ W.grownBy w' none ∧ W.heap.size ≤ b) := fun W => n_new W 1 (Or.inl rfl) (nameL 1) (by decide)
  have A2 := fun (W : World) (b : Nat) (hW : NAt W b 1 (begS 1 (nameL 1))) => n_mixhash W b 1 (Or.inl rfl) _ (begS_ok 1 (Or.inl rfl) _) peer hp hW
  have r3 : ByteArray.mk #[115, 111, 117, 116, 101, 114, 114, 97, 105, 110] ++ ByteArray.mk #[1] = ⟨#[115, 111, 117, 116, 101, 114, 114, 97, 105, 110, 1]⟩ := rfl
  unfold MixedN at A2
  unfold begX
  generalize begS 1 (nameL 1) = x at *
  generalize x.hash 1 peer = y at *
  clear hp
  unfold S at *
  go_enter Tryz.func21, Tryz.ntmps21
  go_wp2_with fail
  (with_reducible refine (A1 _).mono ?_)
  rintro e w1 ⟨b, rfl, hs, hg, lb⟩
  have B2 := A2 w1 b hs
  have lb2 : w.heap.size ≤ b := by simp at lb; omega
  have HG := Lib.hid (grow_trans (World.grownBy_alloc w (.cells #[.int .u8 1] 5) none) hg)
  clear A1 A2 hs hg cv lb
  go_wp2_with fail
  (with_reducible refine B2.mono ?_)
  rintro e w2 ⟨rfl, hs, hg⟩
  have HS := Lib.hid hs
  have HG2 := Lib.hid (grow_trans_new HG.out hg lb2)
  clear B2 hs hg
  go_wp2_with fail
  go_ret
  have l2 := HG2.out.size
  have lt : b < w2.heap.size := Blk.lt HS.out
  exact ⟨w2.heap.size, b, rfl, Blk.new w2 _ _, HS.out.kept (World.grownBy_alloc w2 _ none) (by simp), by omega, grow_alloc HG2.out _, l2, lb2⟩

set_option maxHeartbeats 1000000 in
theorem code_sbegun2 (w : World) (peer : List UInt8) (hp : peer.length ≤ 9223372036854774000) :
    Calls Tryz.prog 21 #[.int .i64 2, S peer] w (fun e w' => ∃ m b, e = .returned (.pointer (some ⟨m, 0, none⟩)) ∧ Mx w w' m b 2 (begX 2 peer)) := by
  have cv : (convert 90 9 (.slice (some ⟨w.heap.size, 0, none⟩) 1 1)).run Tryz.prog (w.alloc (.cells #[.int .u8 2] 5)) = .ok (.string ⟨#[2]⟩) (w.alloc (.cells #[.int .u8 2] 5)) := conv_byte w 2 2 rfl
  have A1 : ∀ W : World, Calls Tryz.prog 42 #[.int .i64 2, .string ⟨#[115, 111, 117, 116, 101, 114, 114, 97, 105, 110, 2]⟩] W (fun e w' => ∃ b, e = .returned (.tuple #[.pointer (some ⟨b, 0, none⟩), .int .i64 0]) ∧ NAt w' b 2 (begS 2 (nameL 2)) ∧ W.grownBy w' none ∧ W.heap.size ≤ b) := fun W => n_new W 2 (Or.inr rfl) (nameL 2) (by decide)
  have A2 := fun (W : World) (b : Nat) (hW : NAt W b 2 (begS 2 (nameL 2))) => n_mixhash W b 2 (Or.inr rfl) _ (begS_ok 2 (Or.inr rfl) _) peer hp hW
  have r3 : ByteArray.mk #[115, 111, 117, 116, 101, 114, 114, 97, 105, 110] ++ ByteArray.mk #[2] = ⟨#[115, 111, 117, 116, 101, 114, 114, 97, 105, 110, 2]⟩ := rfl
  unfold MixedN at A2
  unfold begX
  generalize begS 2 (nameL 2) = x at *
  generalize x.hash 2 peer = y at *
  clear hp
  unfold S at *
  go_enter Tryz.func21, Tryz.ntmps21
  go_wp2_with fail
  (with_reducible refine (A1 _).mono ?_)
  rintro e w1 ⟨b, rfl, hs, hg, lb⟩
  have B2 := A2 w1 b hs
  have lb2 : w.heap.size ≤ b := by simp at lb; omega
  have HG := Lib.hid (grow_trans (World.grownBy_alloc w (.cells #[.int .u8 2] 5) none) hg)
  clear A1 A2 hs hg cv lb
  go_wp2_with fail
  (with_reducible refine B2.mono ?_)
  rintro e w2 ⟨rfl, hs, hg⟩
  have HS := Lib.hid hs
  have HG2 := Lib.hid (grow_trans_new HG.out hg lb2)
  clear B2 hs hg
  go_wp2_with fail
  go_ret
  have l2 := HG2.out.size
  have lt : b < w2.heap.size := Blk.lt HS.out
  exact ⟨w2.heap.size, b, rfl, Blk.new w2 _ _, HS.out.kept (World.grownBy_alloc w2 _ none) (by simp), by omega, grow_alloc HG2.out _, l2, lb2⟩
theorem code_sbegun (w : World) (s : Nat) (h12 : s = 1 ∨ s = 2) (peer : List UInt8) (hp : peer.length ≤ 9223372036854774000) :
    Calls Tryz.prog 21 #[.int .i64 (s : Int), S peer] w (fun e w' => ∃ m b, e = .returned (.pointer (some ⟨m, 0, none⟩)) ∧ Mx w w' m b s (begX s peer)) := by
  rcases h12 with rfl | rfl
  · exact code_sbegun1 w peer hp
  · exact code_sbegun2 w peer hp

end Go.Proofs.YtcmncdaojmkfgaaGreatDoor

namespace Go.Proofs.YtcmncdaojmkfgaaGreatDoor
open Go.RowKit
set_option linter.unusedVariables false

/-- What two who meet are. -/
structure Met where
  s : Nat
  own : List UInt8
  prv : List UInt8
  psk : List UInt8
  once : List UInt8
  other : List UInt8
  best : Nat
  worst : Nat
  index : Nat
  id : Nat
structure Met.ok (t : Met) : Prop where
  s : t.s = 1 ∨ t.s = 2
  own : t.own.length = 32
  prv : t.prv.length = 32
  psk : t.psk.length = 32
  once : t.once.length = 32
  other : t.other.length = 32
  best : t.best = 1 ∨ t.best = 2
  worst : t.worst = 1 ∨ t.worst = 2
  index : t.index < 4294967296
  id : t.id < 4294967296
def Met.PP (t : Met) : List UInt8 := multL t.prv nineL
def Met.PS (t : Met) : List UInt8 := multL t.own nineL
def Met.PO (t : Met) : List UInt8 := multL t.once nineL
def Met.PQ (t : Met) : List UInt8 := multL t.other nineL
def Met.rest (t : Met) : List UInt8 := stampB 7 9 ++ [UInt8.ofNat t.best]
def Met.x0 (t : Met) : NS := begX t.s t.PP
def Met.x1 (t : Met) : NS := t.x0.both t.s t.PO
def Met.x2 (t : Met) : NS := t.x1.key t.s (multL t.once t.PP)
def Met.x3 (t : Met) : NS := t.x2.sealed t.s t.PS
def Met.x4 (t : Met) : NS := t.x3.key t.s (multL t.own t.PP)
def Met.x5 (t : Met) : NS := t.x4.sealed t.s t.rest
def Met.a (t : Met) : List UInt8 := t.x2.ct t.s t.PS
def Met.b (t : Met) : List UInt8 := t.x4.ct t.s t.rest
def Met.first (t : Met) : List UInt8 := [1, UInt8.ofNat t.s] ++ leB t.index 4 ++ t.PO ++ t.a ++ t.b
theorem Met.rest_length (t : Met) : t.rest.length = 13 := by
  unfold Met.rest stampB
  rw [List.length_append, List.length_append, bigB_length, bigB_length]
  rfl
theorem Met.ok.o0 {t : Met} (o : t.ok) : t.x0.ok := begX_ok _ o.s _
theorem Met.ok.o1 {t : Met} (o : t.ok) : t.x1.ok := (o.o0.both _).1
theorem Met.ok.o2 {t : Met} (o : t.ok) : t.x2.ok ∧ t.x2.k.length = 32 := o.o1.key _
theorem Met.ok.o3 {t : Met} (o : t.ok) : t.x3.ok ∧ t.x3.k.length = 32 := o.o2.1.sealed (by show 0 < 1000; omega) o.o2.2 _
theorem Met.ok.o4 {t : Met} (o : t.ok) : t.x4.ok ∧ t.x4.k.length = 32 := o.o3.1.key _
theorem Met.ok.o5 {t : Met} (o : t.ok) : t.x5.ok ∧ t.x5.k.length = 32 := o.o4.1.sealed (by show 0 < 1000; omega) o.o4.2 _
theorem Met.ok.la {t : Met} (o : t.ok) : t.a.length = 48 := by
  have := NS.ct_length (s := t.s) o.o2.2 t.PS
  rw [show t.PS.length = 32 from multL_length _ _] at this
  exact this
theorem Met.ok.lb {t : Met} (o : t.ok) : t.b.length = 29 := by
  have := NS.ct_length (s := t.s) o.o4.2 t.rest
  rw [t.rest_length] at this
  exact this
def begunC (t : Met) : List Value := nstC t.s t.x5.h t.x5.c t.x5.k t.x5.n ++ [.int .i64 (t.s : Int), S t.own, S t.PP, S t.psk, S t.once, .int .u32 (t.index : Int)]
def cfgC (t : Met) : List Value := [.int .i64 (t.s : Int), S t.own, S t.PP, S t.psk]

def BegunTo (w : World) (t : Met) (e : Ending) (w' : World) : Prop :=
  ∃ g, e = .returned (.tuple #[S t.first, .pointer (some ⟨g, 0, none⟩), .int .i64 0]) ∧ Blk w' g 93 (begunC t) ∧ w.grownBy w' none ∧ w.heap.size ≤ g
theorem conv_two {w : World} {g : Nat} {s : Nat} (c : UInt8) (N : Int) (hc : (c.toNat : Int) = N) (h12 : s = 1 ∨ s = 2) (h : Blk w g 5 [.int .u8 N, .int .u8 (s : Int)]) : (convert 90 9 (.slice (some ⟨g, 0, none⟩) 2 2)).run Tryz.prog w = .ok (S [c, UInt8.ofNat s]) w := by
  have cs : ((UInt8.ofNat s).toNat : Int) = (s : Int) := by rcases h12 with e | e <;> rw [e] <;> rfl
  have hb : Bys w g [c, UInt8.ofNat s] := fun i hi => by
    have h2 : i = 0 ∨ i = 1 := by simp at hi; omega
    rcases h2 with rfl | rfl
    · exact ⟨by rw [Blk.cell h 0, ← hc]; rfl, Blk.frozen h 0⟩
    · exact ⟨by rw [Blk.cell h 1, ← cs]; rfl, Blk.frozen h 1⟩
  exact conv_bys hb 2
theorem follows_mixedD : Tryz.prog.follows .mixedOrders = true := by kernel_rfl
theorem lenD28 {vs : List Value} (h : vs.length = 28) : ∃ v0 v1 v2 v3 v4 v5 v6 v7 v8 v9 v10 v11 v12 v13 v14 v15 v16 v17 v18 v19 v20 v21 v22 v23 v24 v25 v26 v27, vs = [v0, v1, v2, v3, v4, v5, v6, v7, v8, v9, v10, v11, v12, v13, v14, v15, v16, v17, v18, v19, v20, v21, v22, v23, v24, v25, v26, v27] := by
  match vs, h with
  | [v0, v1, v2, v3, v4, v5, v6, v7, v8, v9, v10, v11, v12, v13, v14, v15, v16, v17, v18, v19, v20, v21, v22, v23, v24, v25, v26, v27], _ => exact ⟨v0, v1, v2, v3, v4, v5, v6, v7, v8, v9, v10, v11, v12, v13, v14, v15, v16, v17, v18, v19, v20, v21, v22, v23, v24, v25, v26, v27, rfl⟩

set_option maxRecDepth 20000 in
set_option maxHeartbeats 8000000 in
theorem code_sbegin (w : World) (t : Met) (o : t.ok) (nz1 : multL t.once t.PP ≠ leB 0 32) (nz2 : multL t.own t.PP ≠ leB 0 32) :
    Calls Tryz.prog 14 #[.agg #[.int .i64 (t.s : Int), S t.own, S t.PP, S t.psk], S t.once, .agg #[.int .i64 7, .int .i64 9], .int .i64 (t.best : Int), .int .u32 (t.index : Int)] w (BegunTo w t) := by
  have AW := fun W : World => stamp_write_ok W 7 9 rfl
  have AI := fun W : World => code_issuite W t.s o.s
  have AI2 := fun W : World => code_issuite W t.best o.best
  have lPP : t.PP.length = 32 := multL_length _ _
  have lPO : t.PO.length = 32 := multL_length _ _
  have lPS : t.PS.length = 32 := multL_length _ _
  have AK : ∀ W : World, Calls Tryz.prog 19 #[.slice (some ⟨W.heap.size, 0, none⟩) 4 4] (W.alloc (.cells #[S t.own, S t.PP, S t.psk, S t.once] 9)) (fun e w' => e = .returned (.bool true) ∧ (W.alloc (.cells #[S t.own, S t.PP, S t.psk, S t.once] 9)) = w') := fun W =>
    code_iskey _ W.heap.size 4 [t.own, t.PP, t.psk, t.once] rfl (by omega) (fun i hi => by
      rw [obj_cell (obj_new W _)]
      have h4 : i = 0 ∨ i = 1 ∨ i = 2 ∨ i = 3 := by simp at hi; omega
      rcases h4 with rfl | rfl | rfl | rfl <;> rfl) (fun x hx => by
      simp only [List.mem_cons, List.not_mem_nil, or_false] at hx
      rcases hx with rfl | rfl | rfl | rfl
      · exact o.own
      · exact lPP
      · exact o.psk
      · exact o.once)
  have AB : ∀ W : World, Calls Tryz.prog 21 #[.int .i64 (t.s : Int), S t.PP] W (fun e w' => ∃ m b, e = .returned (.pointer (some ⟨m, 0, none⟩)) ∧ Mx W w' m b t.s t.x0) := fun W => code_sbegun W t.s o.s t.PP (by omega)
  have P1 : ∀ W : World, Calls Tryz.prog 13 #[S t.once] W (Grown (.tuple #[S t.PO, .int .i64 0]) W) := fun W => code_cpublic W t.once o.once
  have P2 : ∀ W : World, Calls Tryz.prog 13 #[S t.own] W (Grown (.tuple #[S t.PS, .int .i64 0]) W) := fun W => code_cpublic W t.own o.own
  have C1 : ∀ (w0 W : World) (m b : Nat), Mx w0 W m b t.s t.x0 → Calls Tryz.prog 22 #[.pointer (some ⟨m, 0, none⟩), S t.PO] W (MxTo w0 m b t.s (.tuple #[]) t.x1) := fun w0 W m b h => code_sboth w0 W m b t.s o.s t.x0 o.o0 t.PO (by omega) h
  have C2 : ∀ (w0 W : World) (m b : Nat), Mx w0 W m b t.s t.x1 → Calls Tryz.prog 23 #[.pointer (some ⟨m, 0, none⟩), S t.once, S t.PP] W (MxTo w0 m b t.s (.tuple #[]) t.x2) := fun w0 W m b h => code_ssecret w0 W m b t.s o.s t.x1 o.o1 t.once t.PP o.once lPP nz1 h
  have C3 : ∀ (w0 W : World) (m b : Nat), Mx w0 W m b t.s t.x2 → Calls Tryz.prog 38 #[.pointer (some ⟨m, 0, none⟩), S t.PS] W (MxTo w0 m b t.s (S t.a) t.x3) := fun w0 W m b h => code_sseal w0 W m b t.s o.s t.x2 o.o2.1 o.o2.2 t.PS (by omega) h
  have C4 : ∀ (w0 W : World) (m b : Nat), Mx w0 W m b t.s t.x3 → Calls Tryz.prog 23 #[.pointer (some ⟨m, 0, none⟩), S t.own, S t.PP] W (MxTo w0 m b t.s (.tuple #[]) t.x4) := fun w0 W m b h => code_ssecret w0 W m b t.s o.s t.x3 o.o3.1 t.own t.PP o.own lPP nz2 h
  have C5 : ∀ (w0 W : World) (m b : Nat), Mx w0 W m b t.s t.x4 → Calls Tryz.prog 38 #[.pointer (some ⟨m, 0, none⟩), S t.rest] W (MxTo w0 m b t.s (S t.b) t.x5) := fun w0 W m b h => code_sseal w0 W m b t.s o.s t.x4 o.o4.1 o.o4.2 t.rest (by rw [t.rest_length]; omega) h
  have A9 : ∀ W : World, Calls Tryz.prog 39 #[.int .u32 (t.index : Int)] W (Grown (S (leB t.index 4)) W) := fun W => code_sindex W t.index o.index
  have h12 := o.s
  have ub : IntKind.u8.wrap (t.best : Int) = (t.best : Int) := IntWalk.u8_in _ (by rcases o.best with e | e <;> omega)
  have us : IntKind.u8.wrap (t.s : Int) = (t.s : Int) := IntWalk.u8_in _ (by rcases o.s with e | e <;> omega)
  have cb : (UInt8.ofNat t.best).toNat = t.best := by rcases o.best with e | e <;> rw [e] <;> rfl
  have cs : (UInt8.ofNat t.s).toNat = t.s := by rcases o.s with e | e <;> rw [e] <;> rfl
  have CB := fun W : World => conv_byte W t.best (UInt8.ofNat t.best) cb
  have lst : (stampB 7 9).length = 12 := by unfold stampB; rw [List.length_append, bigB_length, bigB_length]
  have hrest : t.rest = stampB 7 9 ++ [UInt8.ofNat t.best] := rfl
  have hfirst : t.first = 1 :: UInt8.ofNat t.s :: (leB t.index 4 ++ (t.PO ++ (t.a ++ t.b))) := by unfold Met.first; simp only [List.append_assoc, List.cons_append, List.nil_append]
  have hbg : begunC t = nstC t.s t.x5.h t.x5.c t.x5.k t.x5.n ++ [.int .i64 (t.s : Int), S t.own, S t.PP, S t.psk, S t.once, .int .u32 (t.index : Int)] := rfl
  have l4 : (leB t.index 4).length = 4 := leB_length _ _
  have la := o.la
  have lb := o.lb
  have r1 := rule_app
  unfold BegunTo
  unfold MxTo at C1 C2 C3 C4 C5
  rw [hfirst, hbg]
  rw [hrest] at C5
  generalize t.x0 = x0 at *
  generalize t.x1 = x1 at *
  generalize t.x2 = x2 at *
  generalize t.x3 = x3 at *
  generalize t.x4 = x4 at *
  generalize t.x5 = x5 at *
  generalize t.PO = PO at *
  generalize t.PS = PS at *
  generalize t.PP = PP at *
  generalize t.a = va at *
  generalize t.b = vb at *
  generalize stampB 7 9 = st at *
  generalize leB t.index 4 = ix at *
  generalize t.own = own at *
  generalize t.psk = psk at *
  generalize t.once = once at *
  generalize t.s = s at *
  generalize t.best = best at *
  generalize t.index = index at *
  clear o nz1 nz2 hrest hfirst hbg cb cs
  unfold S at *
  go_enter Tryz.func14, Tryz.ntmps14
  go_wp2_with fail
  (with_reducible refine (AW _).mono ?_)
  rintro e y1 ⟨rfl, g1⟩
  have hb1 : Blk y1 w.heap.size 23 [.int .i64 (s : Int), .string ⟨own.toArray⟩, .string ⟨PP.toArray⟩, .string ⟨psk.toArray⟩] := Blk.kept (obj_alloc (obj_new w _)) g1 (by simp)
  have HG1 := Lib.hid (grow_trans (grow_alloc (World.grownBy_alloc w _ none) _) g1)
  have c0 := Blk.cell hb1 0
  have c1 := Blk.cell hb1 1
  have c2 := Blk.cell hb1 2
  have c3 := Blk.cell hb1 3
  have HB1 := Lib.hid hb1
  clear hb1 g1
  go_wp2_with fail
  (with_reducible refine (AI _).mono ?_)
  rintro e z ⟨rfl, rfl⟩
  go_wp2_with fail
  (with_reducible refine (AK _).mono ?_)
  rintro e y2 ⟨rfl, h2⟩
  have g2 : y1.grownBy y2 none := by rw [← h2]; exact World.grownBy_alloc y1 _ none
  have hb2 := Blk.kept HB1.out g2 (by simp)
  have HG2 := Lib.hid (grow_trans HG1.out g2)
  clear h2 g2 c0 c1 c2 c3
  have c0 := Blk.cell hb2 0
  have c1 := Blk.cell hb2 1
  have c2 := Blk.cell hb2 2
  have c3 := Blk.cell hb2 3
  have HB2 := Lib.hid hb2
  clear hb2
  go_wp2_with fail
  (with_reducible refine (AI2 _).mono ?_)
  rintro e z ⟨rfl, rfl⟩
  go_wp2_with fail
  (with_reducible refine (AB _).mono ?_)
  rintro e y3 ⟨m, b, rfl, h3⟩
  have H3 := Lib.hid h3
  clear h3 c0 c1 c2 c3 AB AK AI AI2 AW
  go_wp2_with fail
  (with_reducible refine (P1 _).mono ?_)
  rintro e y4 ⟨rfl, g4⟩
  have h4 := H3.out.new g4
  have H4 := Lib.hid h4
  have d1 := Blk.cell (Blk.kept HB2.out h4.g (by simp)) 1
  clear g4 h4
  go_wp2_with fail
  (with_reducible refine (P2 _).mono ?_)
  rintro e y5 ⟨rfl, g5⟩
  have h5 := H4.out.new g5
  have B1 := C1 _ _ _ _ h5
  clear d1 g5 h5 P1 P2 C1
  go_wp2_with fail
  (with_reducible refine B1.mono ?_)
  rintro e y6 ⟨rfl, h6⟩
  have B2 := C2 _ _ _ _ h6
  have d2 := Blk.cell (Blk.kept HB2.out h6.g (by simp)) 2
  clear h6 B1 C2
  go_wp2_with fail
  (with_reducible refine B2.mono ?_)
  rintro e y7 ⟨rfl, h7⟩
  have B3 := C3 _ _ _ _ h7
  clear h7 B2 C3 d2
  go_wp2_with fail
  (with_reducible refine B3.mono ?_)
  rintro e y8 ⟨rfl, h8⟩
  have B4 := C4 _ _ _ _ h8
  have d1 := Blk.cell (Blk.kept HB2.out h8.g (by simp)) 1
  have d2 := Blk.cell (Blk.kept HB2.out h8.g (by simp)) 2
  clear h8 B3 C4
  go_wp2_with fail
  (with_reducible refine B4.mono ?_)
  rintro e y9 ⟨rfl, h9⟩
  have h9' := h9.new (World.grownBy_alloc y9 (.cells #[.int .u8 (best : Int)] 5) none)
  have B5 := C5 _ _ _ _ h9'
  clear h9 h9' B4 C5 d1 d2
  go_wp2_with fail
  (with_reducible refine B5.mono ?_)
  rintro e yA ⟨rfl, hA⟩
  obtain ⟨e0, e1, _⟩ := hA.cells
  have hbA := Blk.kept HB2.out hA.g (by simp)
  have d0 := Blk.cell hbA 0
  have d1 := Blk.cell hbA 1
  have d2 := Blk.cell hbA 2
  have d3 := Blk.cell hbA 3
  obtain ⟨s0, s1, s2, s3, s4⟩ := NSt.cells hA.st
  have HA := Lib.hid hA
  have HBA := Lib.hid hbA
  clear hA hbA B5
  unfold S at s1 s2 s3
  have SK : ∀ W : World, yA.grownBy W none → W.cell? ⟨w.heap.size, 0, none⟩ = some (.int .i64 (s : Int)) ∧ W.cell? ⟨w.heap.size, 1, none⟩ = some (.string ⟨own.toArray⟩) ∧ W.cell? ⟨w.heap.size, 2, none⟩ = some (.string ⟨PP.toArray⟩) ∧ W.cell? ⟨w.heap.size, 3, none⟩ = some (.string ⟨psk.toArray⟩) ∧ W.cell? ⟨m, 0, none⟩ = some (.pointer (some ⟨b, 0, none⟩)) ∧ W.cell? ⟨b, 0, none⟩ = some (suV s) ∧ W.cell? ⟨b, 1, none⟩ = some (.string ⟨x5.h.toArray⟩) ∧ W.cell? ⟨b, 2, none⟩ = some (.string ⟨x5.c.toArray⟩) ∧ W.cell? ⟨b, 3, none⟩ = some (.string ⟨x5.k.toArray⟩) ∧ W.cell? ⟨b, 4, none⟩ = some (.int .u64 (x5.n : Int)) := fun W g => by
    have hW := HA.out.new g
    have hb := Blk.kept HB2.out hW.g (by simp)
    obtain ⟨t0, t1, t2, t3, t4⟩ := NSt.cells hW.st
    unfold S at t1 t2 t3
    exact ⟨Blk.cell hb 0, Blk.cell hb 1, Blk.cell hb 2, Blk.cell hb 3, hW.cells.1, t0, t1, t2, t3, t4⟩
  go_upto_region 14 with (fail)
  refine drawn_region (none) 0 (fun _ => True) [102, 103, 104, 105, 106, 107, 108, 109, 110, 111, 112, 113, 114, 115, 116, 117, 118, 119, 120, 121, 122, 123, 124, 125, 126, 10, 11, 12] [(PEq (.pointer (some ⟨w.heap.size, 0, none⟩))), (PEq (.int .i64 (s : Int))), (PEq (.int .u8 (s : Int))), (PBlk yA.heap.size 5 [.int .u8 1, .int .u8 (s : Int)] (fun g => .slice (some ⟨g, 0, none⟩) 2 2)), (PEq (.string ⟨[1, UInt8.ofNat s].toArray⟩)), (PEq (.int .u32 (index : Int))), (PEq (.string ⟨ix.toArray⟩)), (PEq (.string ⟨(1 :: UInt8.ofNat s :: ix).toArray⟩)), (PEq (.string ⟨PO.toArray⟩)), (PEq (.string ⟨(1 :: UInt8.ofNat s :: (ix ++ PO)).toArray⟩)), (PEq (.string ⟨va.toArray⟩)), (PEq (.string ⟨(1 :: UInt8.ofNat s :: (ix ++ (PO ++ va))).toArray⟩)), (PEq (.string ⟨vb.toArray⟩)), (PEq (.string ⟨(1 :: UInt8.ofNat s :: (ix ++ (PO ++ (va ++ vb)))).toArray⟩)), (PEq (.pointer (some ⟨m, 0, none⟩))), (PEq (.pointer (some ⟨m, 0, none⟩))), (PEq (.pointer (some ⟨m, 0, none⟩))), (PEq (.pointer (some ⟨b, 0, none⟩))), (PEq (.pointer (some ⟨b, 0, none⟩))), (PEq (.agg #[suV s, .string ⟨x5.h.toArray⟩, .string ⟨x5.c.toArray⟩, .string ⟨x5.k.toArray⟩, .int .u64 (x5.n : Int)])), (PEq (.agg #[.int .i64 (s : Int), .string ⟨own.toArray⟩, .string ⟨PP.toArray⟩, .string ⟨psk.toArray⟩])), (PEq (.string ⟨once.toArray⟩)), (PEq (.int .u32 (index : Int))), (PEq (.agg #[suV s, .string ⟨x5.h.toArray⟩, .string ⟨x5.c.toArray⟩, .string ⟨x5.k.toArray⟩, .int .u64 (x5.n : Int), .int .i64 (s : Int), .string ⟨own.toArray⟩, .string ⟨PP.toArray⟩, .string ⟨psk.toArray⟩, .string ⟨once.toArray⟩, .int .u32 (index : Int)])), (PBlk yA.heap.size 93 [suV s, .string ⟨x5.h.toArray⟩, .string ⟨x5.c.toArray⟩, .string ⟨x5.k.toArray⟩, .int .u64 (x5.n : Int), .int .i64 (s : Int), .string ⟨own.toArray⟩, .string ⟨PP.toArray⟩, .string ⟨psk.toArray⟩, .string ⟨once.toArray⟩, .int .u32 (index : Int)] (fun g => .pointer (some ⟨g, 0, none⟩))), (PEq (.string ⟨(1 :: UInt8.ofNat s :: (ix ++ (PO ++ (va ++ vb)))).toArray⟩)), (PBlk yA.heap.size 93 [suV s, .string ⟨x5.h.toArray⟩, .string ⟨x5.c.toArray⟩, .string ⟨x5.k.toArray⟩, .int .u64 (x5.n : Int), .int .i64 (s : Int), .string ⟨own.toArray⟩, .string ⟨PP.toArray⟩, .string ⟨psk.toArray⟩, .string ⟨once.toArray⟩, .int .u32 (index : Int)] (fun g => .pointer (some ⟨g, 0, none⟩))), (PEq (.int .i64 0))] follows_mixedD (by kernel_rfl) (by kernel_rfl) (by decide) (by rfl) (True.intro) (fun _ _ _ _ => True.intro) ?_ ?_ ?_
  · exact ⟨mono_eq _, mono_eq _, mono_eq _, mono_blk (by simp) _ _ _, mono_eq _, mono_eq _, mono_eq _, mono_eq _, mono_eq _, mono_eq _, mono_eq _, mono_eq _, mono_eq _, mono_eq _, mono_eq _, mono_eq _, mono_eq _, mono_eq _, mono_eq _, mono_eq _, mono_eq _, mono_eq _, mono_eq _, mono_eq _, mono_blk (by simp) _ _ _, mono_eq _, mono_blk (by simp) _ _ _, mono_eq _, True.intro⟩
  · intro vs x hl hg
    obtain ⟨v0, v1, v2, v3, v4, v5, v6, v7, v8, v9, v10, v11, v12, v13, v14, v15, v16, v17, v18, v19, v20, v21, v22, v23, v24, v25, v26, v27, rfl⟩ := lenD28 hl
    simp only [layAll, Act.put, List.setIfInBounds_toArray, List.set_cons_succ, List.set_cons_zero]
    obtain ⟨d0, d1, d2, d3, e0, s0, s1, s2, s3, s4⟩ := SK x hg
    refine stepsL_cons (fun K hw hr hK => ?_) <| stepsL_cons (fun K hw hr hK => ?_) <| stepsL_cons (fun K hw hr hK => ?_) <| stepsL_cons (fun K hw hr hK => ?_) <| stepsL_cons (fun K hw hr hK => ?_) <| stepsL_cons (fun K hw hr hK => ?_) <| stepsL_cons (fun K hw hr hK => ?_) <| stepsL_cons (fun K hw hr hK => ?_) <| stepsL_cons (fun K hw hr hK => ?_) <| stepsL_cons (fun K hw hr hK => ?_) <| stepsL_cons (fun K hw hr hK => ?_) <| stepsL_cons (fun K hw hr hK => ?_) <| stepsL_cons (fun K hw hr hK => ?_) <| stepsL_cons (fun K hw hr hK => ?_) <| stepsL_cons (fun K hw hr hK => ?_) <| stepsL_cons (fun K hw hr hK => ?_) <| stepsL_cons (fun K hw hr hK => ?_) <| stepsL_cons (fun K hw hr hK => ?_) <| stepsL_cons (fun K hw hr hK => ?_) <| stepsL_cons (fun K hw hr hK => ?_) <| stepsL_cons (fun K hw hr hK => ?_) <| stepsL_cons (fun K hw hr hK => ?_) <| stepsL_cons (fun K hw hr hK => ?_) <| stepsL_cons (fun K hw hr hK => ?_) <| stepsL_cons (fun K hw hr hK => ?_) <| stepsL_cons (fun K hw hr hK => ?_) <| stepsL_cons (fun K hw hr hK => ?_) <| stepsL_cons (fun K hw hr hK => ?_) <| stepsL_nil
    · -- 0: fieldAddr
      unfold Oper.wp
      go_simp
      exact hK _ _ rfl (grow_refl _ _)
    · -- 1: load
      have f0 : v0 = _ := hw 0 (by kernel_rfl)
      subst f0
      unfold Oper.wp
      go_simp
      exact hK _ _ rfl (grow_refl _ _)
    · -- 2: convert
      have f1 : v1 = _ := hw 1 (by kernel_rfl)
      subst f1
      unfold Oper.wp
      go_simp
      exact hK _ _ rfl (grow_refl _ _)
    · -- 3: buildSlice
      have f2 : v2 = _ := hw 2 (by kernel_rfl)
      subst f2
      unfold Oper.wp
      go_simp
      exact hK _ _ ⟨x.heap.size, rfl, hg.size, Blk.new x _ _⟩ (World.grownBy_alloc x _ none)
    · -- 4: convert
      obtain ⟨g3, f3, l3, b3⟩ := hw 3 (by kernel_rfl)
      have f3 : v3 = _ := f3
      subst f3
      have kc := conv_two 1 1 rfl h12 b3
      unfold S at kc
      unfold Oper.wp
      go_simp
      exact hK _ _ rfl (grow_refl _ _)
    · -- 5: move
      unfold Oper.wp
      go_simp
      exact hK _ _ rfl (grow_refl _ _)
    · -- 6: call
      have f5 : v5 = _ := hw 5 (by kernel_rfl)
      subst f5
      unfold Oper.wp
      go_simp
      (with_reducible refine (A9 _).mono ?_)
      rintro e z ⟨rfl, gz⟩
      exact hK _ _ rfl gz
    · -- 7: binOp
      have f4 : v4 = _ := hw 4 (by kernel_rfl)
      subst f4
      have f6 : v6 = _ := hw 6 (by kernel_rfl)
      subst f6
      unfold Oper.wp
      go_simp
      exact hK _ _ rfl (grow_refl _ _)
    · -- 8: move
      unfold Oper.wp
      go_simp
      exact hK _ _ rfl (grow_refl _ _)
    · -- 9: binOp
      have f7 : v7 = _ := hw 7 (by kernel_rfl)
      subst f7
      have f8 : v8 = _ := hw 8 (by kernel_rfl)
      subst f8
      unfold Oper.wp
      go_simp
      exact hK _ _ rfl (grow_refl _ _)
    · -- 10: move
      unfold Oper.wp
      go_simp
      exact hK _ _ rfl (grow_refl _ _)
    · -- 11: binOp
      have f9 : v9 = _ := hw 9 (by kernel_rfl)
      subst f9
      have f10 : v10 = _ := hw 10 (by kernel_rfl)
      subst f10
      unfold Oper.wp
      go_simp
      exact hK _ _ rfl (grow_refl _ _)
    · -- 12: move
      unfold Oper.wp
      go_simp
      exact hK _ _ rfl (grow_refl _ _)
    · -- 13: binOp
      have f11 : v11 = _ := hw 11 (by kernel_rfl)
      subst f11
      have f12 : v12 = _ := hw 12 (by kernel_rfl)
      subst f12
      unfold Oper.wp
      go_simp
      exact hK _ _ rfl (grow_refl _ _)
    · -- 14: move
      unfold Oper.wp
      go_simp
      exact hK _ _ rfl (grow_refl _ _)
    · -- 15: nilCheck
      have f14 : v14 = _ := hw 14 (by kernel_rfl)
      subst f14
      unfold Oper.wp
      go_simp
      exact hK _ _ rfl (grow_refl _ _)
    · -- 16: fieldAddr
      have f15 : v15 = _ := hw 15 (by kernel_rfl)
      subst f15
      unfold Oper.wp
      go_simp
      exact hK _ _ rfl (grow_refl _ _)
    · -- 17: load
      have f16 : v16 = _ := hw 16 (by kernel_rfl)
      subst f16
      unfold Oper.wp
      go_simp
      exact hK _ _ rfl (grow_refl _ _)
    · -- 18: nilCheck
      have f17 : v17 = _ := hw 17 (by kernel_rfl)
      subst f17
      unfold Oper.wp
      go_simp
      exact hK _ _ rfl (grow_refl _ _)
    · -- 19: load
      have f18 : v18 = _ := hw 18 (by kernel_rfl)
      subst f18
      unfold Oper.wp
      go_simp
      exact hK _ _ rfl (grow_refl _ _)
    · -- 20: load
      unfold Oper.wp
      go_simp
      exact hK _ _ rfl (grow_refl _ _)
    · -- 21: move
      unfold Oper.wp
      go_simp
      exact hK _ _ rfl (grow_refl _ _)
    · -- 22: move
      unfold Oper.wp
      go_simp
      exact hK _ _ rfl (grow_refl _ _)
    · -- 23: build
      have f19 : v19 = _ := hw 19 (by kernel_rfl)
      subst f19
      have f20 : v20 = _ := hw 20 (by kernel_rfl)
      subst f20
      have f21 : v21 = _ := hw 21 (by kernel_rfl)
      subst f21
      have f22 : v22 = _ := hw 22 (by kernel_rfl)
      subst f22
      unfold Oper.wp
      go_simp
      exact hK _ _ rfl (grow_refl _ _)
    · -- 24: box
      have f23 : v23 = _ := hw 23 (by kernel_rfl)
      subst f23
      unfold Oper.wp
      go_simp
      exact hK _ _ ⟨x.heap.size, rfl, hg.size, Blk.new x _ _⟩ (World.grownBy_alloc x _ none)
    · -- 25: assign
      have f13 : v13 = _ := hw 13 (by kernel_rfl)
      subst f13
      unfold Oper.wp
      go_simp
      exact hK _ _ rfl (grow_refl _ _)
    · -- 26: assign
      obtain ⟨g24, f24, l24, b24⟩ := hw 24 (by kernel_rfl)
      have f24 : v24 = _ := f24
      subst f24
      unfold Oper.wp
      go_simp
      exact hK _ _ ⟨g24, rfl, l24, b24⟩ (grow_refl _ _)
    · -- 27: assign
      unfold Oper.wp
      go_simp
      exact hK _ _ rfl (grow_refl _ _)
  · intro vs x hl hg hp
    obtain ⟨v0, v1, v2, v3, v4, v5, v6, v7, v8, v9, v10, v11, v12, v13, v14, v15, v16, v17, v18, v19, v20, v21, v22, v23, v24, v25, v26, v27, rfl⟩ := lenD28 hl
    have f0 : v0 = _ := hp 0 _ rfl
    have f1 : v1 = _ := hp 1 _ rfl
    have f2 : v2 = _ := hp 2 _ rfl
    obtain ⟨g3, f3, l3, b3⟩ := hp 3 _ rfl
    have f3 : v3 = _ := f3
    have f4 : v4 = _ := hp 4 _ rfl
    have f5 : v5 = _ := hp 5 _ rfl
    have f6 : v6 = _ := hp 6 _ rfl
    have f7 : v7 = _ := hp 7 _ rfl
    have f8 : v8 = _ := hp 8 _ rfl
    have f9 : v9 = _ := hp 9 _ rfl
    have f10 : v10 = _ := hp 10 _ rfl
    have f11 : v11 = _ := hp 11 _ rfl
    have f12 : v12 = _ := hp 12 _ rfl
    have f13 : v13 = _ := hp 13 _ rfl
    have f14 : v14 = _ := hp 14 _ rfl
    have f15 : v15 = _ := hp 15 _ rfl
    have f16 : v16 = _ := hp 16 _ rfl
    have f17 : v17 = _ := hp 17 _ rfl
    have f18 : v18 = _ := hp 18 _ rfl
    have f19 : v19 = _ := hp 19 _ rfl
    have f20 : v20 = _ := hp 20 _ rfl
    have f21 : v21 = _ := hp 21 _ rfl
    have f22 : v22 = _ := hp 22 _ rfl
    have f23 : v23 = _ := hp 23 _ rfl
    obtain ⟨g24, f24, l24, b24⟩ := hp 24 _ rfl
    have f24 : v24 = _ := f24
    have f25 : v25 = _ := hp 25 _ rfl
    obtain ⟨g26, f26, l26, b26⟩ := hp 26 _ rfl
    have f26 : v26 = _ := f26
    have f27 : v27 = _ := hp 27 _ rfl
    subst f0
    subst f1
    subst f2
    subst f3
    subst f4
    subst f5
    subst f6
    subst f7
    subst f8
    subst f9
    subst f10
    subst f11
    subst f12
    subst f13
    subst f14
    subst f15
    subst f16
    subst f17
    subst f18
    subst f19
    subst f20
    subst f21
    subst f22
    subst f23
    subst f24
    subst f25
    subst f26
    subst f27
    simp only [layAll, Act.put, List.setIfInBounds_toArray, List.set_cons_succ, List.set_cons_zero]
    clear hp hl
    go_wp2_with fail
    refine bodyPost_ret (v := .tuple #[.string ⟨(1 :: UInt8.ofNat s :: (ix ++ (PO ++ (va ++ vb)))).toArray⟩, .pointer (some ⟨g26, 0, none⟩), .int .i64 0]) (by simp [results, Tryz.results14, go_sem]) rfl ?_
    exact ⟨g26, rfl, b26, grow_trans (grow_trans HG2.out HA.out.g) hg, by have h1 := HG2.out.size; have h2 := HA.out.g.size; omega⟩

end Go.Proofs.YtcmncdaojmkfgaaGreatDoor

namespace Go.Proofs.YtcmncdaojmkfgaaGreatDoor
open Go.RowKit
set_option linter.unusedVariables false

theorem cut_mid (A B C : List UInt8) (n m : Nat) (hA : A.length = n) (hB : B.length = m) : ((A ++ B ++ C).drop n).take m = B := by
  subst hA hB
  rw [List.append_assoc, List.drop_left, List.take_left]
theorem cut_end (A B : List UInt8) (n m : Nat) (hA : A.length = n) (hB : B.length ≤ m) : ((A ++ B).drop n).take m = B := by
  subst hA
  rw [List.drop_left, List.take_of_length_le hB]
theorem Met.ok.first_length {t : Met} (o : t.ok) : t.first.length = 115 := by
  have h1 := o.la
  have h2 := o.lb
  have h3 : t.PO.length = 32 := multL_length _ _
  unfold Met.first
  simp only [List.length_append, List.length_cons, List.length_nil, leB_length, h1, h2, h3]
theorem Met.first_head (t : Met) : t.first = 1 :: UInt8.ofNat t.s :: (leB t.index 4 ++ t.PO ++ t.a ++ t.b) := by
  unfold Met.first
  simp only [List.append_assoc, List.cons_append, List.nil_append]
theorem Met.ok.first2 {t : Met} (o : t.ok) : (t.first.drop 2).take 4 = leB t.index 4 := by
  have e : t.first = [1, UInt8.ofNat t.s] ++ leB t.index 4 ++ (t.PO ++ t.a ++ t.b) := by unfold Met.first; simp only [List.append_assoc]
  rw [e]
  exact cut_mid _ _ _ 2 4 rfl (leB_length _ _)
theorem Met.ok.first6 {t : Met} (o : t.ok) : (t.first.drop 6).take 32 = t.PO := by
  have e : t.first = ([1, UInt8.ofNat t.s] ++ leB t.index 4) ++ t.PO ++ (t.a ++ t.b) := by unfold Met.first; simp only [List.append_assoc]
  rw [e]
  exact cut_mid _ _ _ 6 32 (by rw [List.length_append, leB_length]; rfl) (multL_length _ _)
theorem Met.ok.first38 {t : Met} (o : t.ok) : (t.first.drop 38).take 48 = t.a := by
  have e : t.first = ([1, UInt8.ofNat t.s] ++ leB t.index 4 ++ t.PO) ++ t.a ++ t.b := rfl
  rw [e]
  exact cut_mid _ _ _ 38 48 (by rw [List.length_append, List.length_append, leB_length, show t.PO.length = 32 from multL_length _ _]; rfl) o.la
theorem Met.ok.first86 {t : Met} (o : t.ok) : (t.first.drop 86).take 29 = t.b := by
  have e : t.first = ([1, UInt8.ofNat t.s] ++ leB t.index 4 ++ t.PO ++ t.a) ++ t.b := rfl
  rw [e]
  exact cut_end _ _ 86 29 (by rw [List.length_append, List.length_append, List.length_append, leB_length, show t.PO.length = 32 from multL_length _ _, o.la]; rfl) (by rw [o.lb]; omega)
theorem clamped_in (k : List UInt8) (hk : k.length = 32) : leN (clampL k) < 2 ^ 255 := (clamp_in k hk).1
theorem Met.ok.same1 {t : Met} (o : t.ok) : multL t.prv t.PO = multL t.once t.PP := mult_twice t.once t.prv nineL o.once o.prv (clamped_in _ o.once) (clamped_in _ o.prv)
theorem Met.ok.same2 {t : Met} (o : t.ok) : multL t.prv t.PS = multL t.own t.PP := mult_twice t.own t.prv nineL o.own o.prv (clamped_in _ o.own) (clamped_in _ o.prv)
theorem Met.ok.same3 {t : Met} (o : t.ok) : multL t.once t.PQ = multL t.other t.PO := mult_twice t.other t.once nineL o.other o.once (clamped_in _ o.other) (clamped_in _ o.once)
theorem Met.ok.same4 {t : Met} (o : t.ok) : multL t.own t.PQ = multL t.other t.PS := mult_twice t.other t.own nineL o.other o.own (clamped_in _ o.other) (clamped_in _ o.own)
theorem Met.ok.nz1 {t : Met} (o : t.ok) : multL t.once t.PP ≠ leB 0 32 := nine_again _ _ o.once o.prv
theorem Met.ok.nz2 {t : Met} (o : t.ok) : multL t.own t.PP ≠ leB 0 32 := nine_again _ _ o.own o.prv
theorem Met.ok.nz3 {t : Met} (o : t.ok) : multL t.other t.PO ≠ leB 0 32 := nine_again _ _ o.other o.once
theorem Met.ok.nz4 {t : Met} (o : t.ok) : multL t.other t.PS ≠ leB 0 32 := nine_again _ _ o.other o.own
def Met.y1 (t : Met) : NS := t.x5.both t.s t.PQ
def Met.y2 (t : Met) : NS := t.y1.key t.s (multL t.other t.PO)
def Met.y3 (t : Met) : NS := t.y2.key t.s (multL t.other t.PS)
def Met.y4 (t : Met) : NS := t.y3.psk t.s t.psk
def Met.c (t : Met) : List UInt8 := t.y4.ct t.s [UInt8.ofNat t.worst]
def Met.y5 (t : Met) : NS := t.y4.sealed t.s [UInt8.ofNat t.worst]
def Met.k1 (t : Met) : List UInt8 := mk1 t.s t.y5.c []
def Met.k2 (t : Met) : List UInt8 := mk2 t.s t.y5.c []
def Met.second (t : Met) : List UInt8 := [2, UInt8.ofNat t.s] ++ leB t.id 4 ++ leB t.index 4 ++ t.PQ ++ t.c
theorem Met.ok.p1 {t : Met} (o : t.ok) : t.y1.ok := (o.o5.1.both _).1
theorem Met.ok.p2 {t : Met} (o : t.ok) : t.y2.ok := (o.p1.key _).1
theorem Met.ok.p3 {t : Met} (o : t.ok) : t.y3.ok := (o.p2.key _).1
theorem Met.ok.p4 {t : Met} (o : t.ok) : t.y4.ok ∧ t.y4.k.length = 32 := o.p3.psk _
theorem Met.ok.p5 {t : Met} (o : t.ok) : t.y5.ok ∧ t.y5.k.length = 32 := o.p4.1.sealed (by show 0 < 1000; omega) o.p4.2 _
theorem Met.ok.lc {t : Met} (o : t.ok) : t.c.length = 17 := NS.ct_length (s := t.s) o.p4.2 _
theorem Met.ok.second_length {t : Met} (o : t.ok) : t.second.length = 59 := by
  have h1 := o.lc
  have h3 : t.PQ.length = 32 := multL_length _ _
  unfold Met.second
  simp only [List.length_append, List.length_cons, List.length_nil, leB_length, h1, h3]
theorem Met.second_head (t : Met) : t.second = 2 :: UInt8.ofNat t.s :: (leB t.id 4 ++ leB t.index 4 ++ t.PQ ++ t.c) := by
  unfold Met.second
  simp only [List.append_assoc, List.cons_append, List.nil_append]
theorem Met.ok.second2 {t : Met} (o : t.ok) : (t.second.drop 2).take 4 = leB t.id 4 := by
  have e : t.second = [2, UInt8.ofNat t.s] ++ leB t.id 4 ++ (leB t.index 4 ++ t.PQ ++ t.c) := by unfold Met.second; simp only [List.append_assoc]
  rw [e]
  exact cut_mid _ _ _ 2 4 rfl (leB_length _ _)
theorem Met.ok.second6 {t : Met} (o : t.ok) : (t.second.drop 6).take 4 = leB t.index 4 := by
  have e : t.second = ([2, UInt8.ofNat t.s] ++ leB t.id 4) ++ leB t.index 4 ++ (t.PQ ++ t.c) := by unfold Met.second; simp only [List.append_assoc]
  rw [e]
  exact cut_mid _ _ _ 6 4 (by rw [List.length_append, leB_length]; rfl) (leB_length _ _)
theorem Met.ok.second10 {t : Met} (o : t.ok) : (t.second.drop 10).take 32 = t.PQ := by
  have e : t.second = ([2, UInt8.ofNat t.s] ++ leB t.id 4 ++ leB t.index 4) ++ t.PQ ++ t.c := rfl
  rw [e]
  exact cut_mid _ _ _ 10 32 (by rw [List.length_append, List.length_append, leB_length, leB_length]; rfl) (multL_length _ _)
theorem Met.ok.second42 {t : Met} (o : t.ok) : (t.second.drop 42).take 17 = t.c := by
  have e : t.second = ([2, UInt8.ofNat t.s] ++ leB t.id 4 ++ leB t.index 4 ++ t.PQ) ++ t.c := rfl
  rw [e]
  exact cut_end _ _ 42 17 (by rw [List.length_append, List.length_append, List.length_append, leB_length, leB_length, show t.PQ.length = 32 from multL_length _ _]; rfl) (by rw [o.lc]; omega)
theorem num_back {n : Nat} (h : n < 4294967296) : leN (leB n 4) = n := by
  rw [leN_leB]
  exact Nat.mod_eq_of_lt h
theorem rest_12 (t : Met) : t.rest.take 12 = stampB 7 9 ∧ t.rest.drop 12 = [UInt8.ofNat t.best] := by
  have lst : (stampB 7 9).length = 12 := by unfold stampB; rw [List.length_append, bigB_length, bigB_length]
  exact ⟨List.take_left' lst, List.drop_left' lst⟩

end Go.Proofs.YtcmncdaojmkfgaaGreatDoor
