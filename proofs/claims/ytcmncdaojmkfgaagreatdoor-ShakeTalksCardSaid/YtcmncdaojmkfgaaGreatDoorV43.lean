/-
  Several texts of this claim in one: Pair, PairSeal, PairLarge, PairTwo, StrsOpen.
-/
import Derived.Test.YtcmncdaojmkfgaaGreatDoorWindow
import Derived.Test.YtcmncdaojmkfgaaGreatDoorQ02
import Derived.Test.YtcmncdaojmkfgaaGreatDoorV39
import Derived.Test.YtcmncdaojmkfgaaGreatDoorOpen
namespace Go.Proofs.YtcmncdaojmkfgaaGreatDoor
open Go.RowKit
set_option linter.unusedVariables false

/-- A session's cells. -/
def pairC (B : Nat) (send recv : List UInt8) (suite sealed : Nat) (first : Bool) : List Value := [.pointer (some ⟨B, 0, none⟩), S send, S recv, .int .i64 (suite : Int), .int .i64 0, .int .i64 (sealed : Int), .bool first]
def PairAt (w : World) (b B : Nat) (send recv : List UInt8) (suite sealed : Nat) (first : Bool) : Prop := Blk w b 84 (pairC B send recv suite sealed first)

def NewPair (w : World) (send recv : List UInt8) (suite : Nat) (first : Bool) (e : Ending) (w' : World) : Prop :=
  ∃ b B, e = .returned (.tuple #[.pointer (some ⟨b, 0, none⟩), .int .i64 0]) ∧ PairAt w' b B send recv suite 0 first ∧ WnAt w' B 0 0 ∧ w.grownBy w' none ∧ w.heap.size ≤ b ∧ w.heap.size ≤ B ∧ b ≠ B

set_option maxRecDepth 100000 in
set_option maxHeartbeats 2000000 in
theorem code_prnew (w : World) (suite : Nat) (h12 : suite = 1 ∨ suite = 2) (send recv : List UInt8) (hs : send.length = 32) (hr : recv.length = 32) (first : Bool) :
    Calls Tryz.prog 10 #[.int .i64 (suite : Int), .agg #[S send, S recv], .int .i64 0, .bool first] w (NewPair w send recv suite first) := by
  have q1 : ((send.length : Int) != 32) = false := by rw [hs]; rfl
  have q2 : ((recv.length : Int) != 32) = false := by rw [hr]; rfl
  have q3 : (((suite : Int) == 1) || ((suite : Int) == 2)) = true := by rcases h12 with rfl | rfl <;> rfl
  have q4 : ((suite : Int) == 1) = false → ((suite : Int) == 2) = true := by rcases h12 with rfl | rfl <;> simp
  have A1 := fun W : World => window_new W
  rcases h12 with rfl | rfl
  all_goals
    unfold S
    go_enter Tryz.func10, Tryz.ntmps10
    go_wp2_with fail
    go_region_held3 (fun W => W.cell? ⟨w.heap.size, 0, none⟩ = some (.string ⟨send.toArray⟩) ∧ W.cell? ⟨w.heap.size, 1, none⟩ = some (.string ⟨recv.toArray⟩)) (first | exact ⟨by rw [obj_cell (obj_new_drew w _)]; rfl, by rw [obj_cell (obj_new_drew w _)]; rfl⟩ | exact ⟨c0, c1⟩ | exact ⟨obj_cell (obj_alloc hb0) 0, obj_cell (obj_alloc hb0) 1⟩) (first
      | (go_at_call 28; (with_reducible refine (A1 _).mono ?_); rintro e x1 ⟨rfl, hw1, hg1⟩; have hb0 := grow_obj hg1 (obj_new_drew w (.cells #[.string ⟨send.toArray⟩, .string ⟨recv.toArray⟩] 26)) nofun; have c0 := obj_cell hb0 0; have c1 := obj_cell hb0 1))
    all_goals
      have hw2 : WnAt x1 (w.heap.size + 1) 0 0 := by simpa using hw1
      have hg2 := grow_trans (grow_drew (World.grownBy_alloc w (.cells #[.string ⟨send.toArray⟩, .string ⟨recv.toArray⟩] 26) none)) hg1
      have hl := lt_of_obj hw2
      have hz := hg2.size
      clear hw1 hg1 hb0 c0 c1
      go_wp2_with fail
      go_ret2
      exact ⟨x1.heap.size, w.heap.size + 1, rfl, obj_new _ _, obj_alloc hw2, grow_alloc hg2 _, hz, by omega, by omega⟩

theorem PairAt.cells {w : World} {b B : Nat} {send recv : List UInt8} {suite sealed : Nat} {first : Bool} (h : PairAt w b B send recv suite sealed first) :
    w.cell? ⟨b, 0, none⟩ = some (.pointer (some ⟨B, 0, none⟩)) ∧ w.cell? ⟨b, 1, none⟩ = some (S send) ∧ w.cell? ⟨b, 2, none⟩ = some (S recv) ∧ w.cell? ⟨b, 3, none⟩ = some (.int .i64 (suite : Int)) ∧ w.cell? ⟨b, 4, none⟩ = some (.int .i64 0) ∧ w.cell? ⟨b, 5, none⟩ = some (.int .i64 (sealed : Int)) ∧ w.cell? ⟨b, 6, none⟩ = some (.bool first) ∧ w.frozen? ⟨b, 5, none⟩ = false :=
  ⟨Blk.cell h 0, Blk.cell h 1, Blk.cell h 2, Blk.cell h 3, Blk.cell h 4, Blk.cell h 5, Blk.cell h 6, Blk.frozen h 5⟩
theorem PairAt.kept {w w' : World} {b B : Nat} {send recv : List UInt8} {suite sealed : Nat} {first : Bool} {r : Option Nat} (h : PairAt w b B send recv suite sealed first) (g : w.grownBy w' r) (hr : some b ≠ r) : PairAt w' b B send recv suite sealed first := Blk.kept h g hr

theorem code_prold (w : World) (b B : Nat) (send recv : List UInt8) (suite sealed : Nat) (first : Bool) (h : PairAt w b B send recv suite sealed first) (now most : Nat) (M : Int) (hM : M = (most : Int)) (hm : most ≤ 1000) :
    Calls Tryz.prog 31 #[.pointer (some ⟨b, 0, none⟩), .int .i64 (now : Int), .int .i64 M] w fun e w' => e = .returned (.bool (decide (most ≤ now))) ∧ w = w' := by
  obtain ⟨c0, c1, c2, c3, c4, c5, c6, f5⟩ := h.cells
  subst hM
  have hd : decide ((most : Int) ≤ (now : Int)) = decide (most ≤ now) := by simp
  clear c0 c1 c2 c3 c5 c6 f5
  go_enter Tryz.func31, Tryz.ntmps31
  go_wp2_with fail
  go_ret
  exact ⟨by simp, rfl⟩

theorem code_prover (w : World) (b B : Nat) (send recv : List UInt8) (suite sealed : Nat) (first : Bool) (h : PairAt w b B send recv suite sealed first) (now : Nat) (hs : sealed < 1000) :
    Calls Tryz.prog 29 #[.pointer (some ⟨b, 0, none⟩), .int .i64 (now : Int)] w fun e w' => e = .returned (.bool (decide (180 ≤ now))) ∧ w = w' := by
  have A := code_prold w b B send recv suite sealed first h now 180 180 rfl (by omega)
  obtain ⟨c0, c1, c2, c3, c4, c5, c6, f5⟩ := h.cells
  have hd : decide ((1000 : Int) ≤ (sealed : Int)) = false := by simp; omega
  have hd2 : ¬ ((1000 : Int) ≤ (sealed : Int)) := by omega
  clear c0 c1 c2 c3 c4 c6 f5
  by_cases hn : 180 ≤ now
  · have e1 : decide (180 ≤ now) = true := by simp [hn]
    rw [e1] at A ⊢
    go_enter Tryz.func29, Tryz.ntmps29
    go_wp2_with fail
    (with_reducible refine A.mono ?_)
    rintro e x ⟨rfl, rfl⟩
    go_wp2_with fail
    go_ret
    exact ⟨rfl, rfl⟩
  · have e1 : decide (180 ≤ now) = false := by simp [hn]
    rw [e1] at A ⊢
    go_enter Tryz.func29, Tryz.ntmps29
    go_wp2_with fail
    (with_reducible refine A.mono ?_)
    rintro e x ⟨rfl, rfl⟩
    go_wp2_with fail
    go_ret
    exact ⟨rfl, rfl⟩

end Go.Proofs.YtcmncdaojmkfgaaGreatDoor

namespace Go.Proofs.YtcmncdaojmkfgaaGreatDoor
open Go.RowKit
set_option linter.unusedVariables false

def Sealed1 (w : World) (b B : Nat) (send recv : List UInt8) (suite sealed : Nat) (first : Bool) (text : List UInt8) (e : Ending) (w' : World) : Prop :=
  e = .returned (.tuple #[.int .i64 (sealed : Int), S (sealN suite send sealed [] text), .int .i64 0]) ∧ PairAt w' b B send recv suite (sealed + 1) first ∧ w.grownBy w' (some b)

set_option maxRecDepth 100000 in
set_option maxHeartbeats 2000000 in
theorem code_prseal (w : World) (b B : Nat) (send recv : List UInt8) (suite sealed : Nat) (h12 : suite = 1 ∨ suite = 2) (first : Bool) (h : PairAt w b B send recv suite sealed first) (hk : send.length = 32) (now : Nat) (hn : now < 180) (hs : sealed < 1000) (text : List UInt8) (ht : text.length ≤ 2000) :
    Calls Tryz.prog 11 #[.pointer (some ⟨b, 0, none⟩), S text, .int .i64 (now : Int)] w (Sealed1 w b B send recv suite sealed first text) := by
  have A1 := code_prover w b B send recv suite sealed first h now hs
  have e1 : decide (180 ≤ now) = false := by simp; omega
  rw [e1] at A1
  have A2 := fun W : World => noise_seal W suite h12 send [] text sealed (by omega) hk (by simp) ht
  have hlt := Blk.lt h
  obtain ⟨c0, c1, c2, c3, c4, c5, c6, f5⟩ := h.cells
  have wn : IntKind.u64.wrap (sealed : Int) = (sealed : Int) := IntWalk.u64_in _ (by omega)
  have H := Lib.hid h
  unfold Sealed1
  generalize sealN suite send sealed [] text = V at *
  clear c0 c2 c4 c6 f5 e1 h12 h
  unfold S at *
  go_enter Tryz.func11, Tryz.ntmps11
  go_wp2_with fail
  (with_reducible refine A1.mono ?_)
  rintro e x ⟨rfl, rfl⟩
  go_wp2_with fail
  go_region_held3 (fun W => W.cell? ⟨b, 1, none⟩ = some (.string ⟨send.toArray⟩) ∧ W.cell? ⟨b, 3, none⟩ = some (.int .i64 (suite : Int)) ∧ W.cell? ⟨b, 5, none⟩ = some (.int .i64 (sealed : Int))) (first | exact ⟨c1, c3, c5⟩ | exact ⟨d1, d3, d5⟩) (first
    | (go_at_call 30; (with_reducible refine (A2 _).mono ?_); rintro e x1 ⟨rfl, hg1⟩; have H1 : PairAt x1 b B send recv suite sealed first := Blk.kept (Blk.drew H.out) hg1 nofun; obtain ⟨d0, d1, d2, d3, d4, d5, d6, f5⟩ := H1.cells))
  all_goals
    have n5 := H1.cells.2.2.2.2.2.2.2
    have H2 : PairAt (x1.setCell ⟨b, 5, none⟩ (.int .i64 ((sealed : Int) + 1))) b B send recv suite (sealed + 1) first := Blk.set H1 5 (.int .i64 ((sealed : Int) + 1))
    obtain ⟨m0, m1, m2, m3, m4, m5, m6, m7⟩ := H2.cells
    have HG := Lib.hid (grow_setCell (grow_none (r := some b) (grow_trans (grow_drew (grow_refl w none)) hg1)) 5 (.int .i64 ((sealed : Int) + 1)))
    have HP := Lib.hid H2
    clear hg1 H1 H2 m0 m1 m2 m3 m4 m6 m7 d0 d1 d2 d3 d4 d6
    go_wp2_with fail
    refine bodyPost_ret (v := .tuple #[.int .i64 (sealed : Int), .string ⟨V.toArray⟩, .int .i64 0]) (by simp [results, Tryz.results11, go_sem]) rfl ?_
    exact ⟨rfl, HP.out, HG.out⟩

theorem code_prseal_old (w : World) (b B : Nat) (send recv : List UInt8) (suite sealed : Nat) (first : Bool) (h : PairAt w b B send recv suite sealed first) (now : Nat) (hn : 180 ≤ now) (hs : sealed < 1000) (text : List UInt8) :
    Calls Tryz.prog 11 #[.pointer (some ⟨b, 0, none⟩), S text, .int .i64 (now : Int)] w fun e w' => e = .returned (.tuple #[.int .i64 0, S [], .int .i64 11]) ∧ w = w' := by
  have A1 := code_prover w b B send recv suite sealed first h now hs
  have e1 : decide (180 ≤ now) = true := by simp; omega
  rw [e1] at A1
  clear h e1
  unfold S at *
  go_enter Tryz.func11, Tryz.ntmps11
  go_wp2_with fail
  (with_reducible refine A1.mono ?_)
  rintro e x ⟨rfl, rfl⟩
  go_wp2_with fail
  refine bodyPost_ret (v := .tuple #[.int .i64 0, .string ⟨#[]⟩, .int .i64 11]) (by simp [results, Tryz.results11, go_sem]) rfl ?_
  exact ⟨rfl, rfl⟩

theorem code_propen_old (w : World) (b B : Nat) (send recv : List UInt8) (suite sealed : Nat) (first : Bool) (h : PairAt w b B send recv suite sealed first) (now : Nat) (hn : 180 ≤ now) (n : Int) (text : List UInt8) :
    Calls Tryz.prog 12 #[.pointer (some ⟨b, 0, none⟩), .int .i64 n, S text, .int .i64 (now : Int)] w fun e w' => e = .returned (.tuple #[S [], .int .i64 11]) ∧ w = w' := by
  have A1 := code_prold w b B send recv suite sealed first h now 180 180 rfl (by omega)
  have e1 : decide (180 ≤ now) = true := by simp; omega
  rw [e1] at A1
  clear h e1
  unfold S at *
  go_enter Tryz.func12, Tryz.ntmps12
  go_wp2_with fail
  (with_reducible refine A1.mono ?_)
  rintro e x ⟨rfl, rfl⟩
  go_wp2_with fail
  go_ret2
  exact ⟨rfl, rfl⟩

/-- A number that the window refuses. -/
theorem code_propen_no (w : World) (b B : Nat) (send recv : List UInt8) (suite sealed : Nat) (first : Bool) (h : PairAt w b B send recv suite sealed first) (now : Nat) (hn : now < 180) (n : Int) (hwf : (Lit.int .i64 n).wf = true) (text : List UInt8)
    (next : Int) (m : Nat) (hw : WnAt w B next m) (h0 : 0 ≤ next) (h1 : next ≤ 1099511627777) (hm : m < 18446744073709551616) (c : Int) (hc : wnCheck next m n = c) (hc0 : (c == 0) = false) :
    Calls Tryz.prog 12 #[.pointer (some ⟨b, 0, none⟩), .int .i64 n, S text, .int .i64 (now : Int)] w (Grown (.tuple #[S [], .int .i64 c]) w) := by
  have A1 := code_prold w b B send recv suite sealed first h now 180 180 rfl (by omega)
  have e1 : decide (180 ≤ now) = false := by simp; omega
  rw [e1] at A1
  have A2 := window_check w B next m n hw h0 h1 hm hwf
  rw [hc] at A2
  obtain ⟨c0, c1, c2, c3, c4, c5, c6, f5⟩ := h.cells
  have q : (c != 0) = true := by simp [bne, hc0]
  clear h e1 hc hw h0 h1 hm c1 c2 c3 c4 c5 c6 f5 hwf
  unfold S at *
  go_enter Tryz.func12, Tryz.ntmps12
  go_wp2_with fail
  (with_reducible refine A1.mono ?_)
  rintro e x ⟨rfl, rfl⟩
  go_wp2_with fail
  (with_reducible refine A2.mono ?_)
  rintro e x ⟨rfl, hg⟩
  go_wp2_with fail
  go_ret2
  exact ⟨rfl, hg⟩

def Opened1 (w : World) (b B : Nat) (send recv : List UInt8) (suite sealed : Nat) (first : Bool) (text : List UInt8) (next : Int) (m : Nat) (n : Int) (e : Ending) (w' : World) : Prop :=
  e = .returned (.tuple #[S text, .int .i64 0]) ∧ PairAt w' b B send recv suite sealed first ∧ WnAt w' B (wnTake next m n).1 (wnTake next m n).2 ∧ w.grownBy w' (some B)

set_option maxRecDepth 100000 in
set_option maxHeartbeats 2000000 in
theorem code_propen (w : World) (b B : Nat) (send recv : List UInt8) (suite sealed : Nat) (h12 : suite = 1 ∨ suite = 2) (first : Bool) (h : PairAt w b B send recv suite sealed first) (hbB : b ≠ B) (hk : recv.length = 32) (now : Nat) (hn : now < 180) (n : Nat) (n1 : n ≤ 1099511627776) (text : List UInt8) (ht : text.length ≤ 2000)
    (next : Int) (m : Nat) (hw : WnAt w B next m) (h0 : 0 ≤ next) (h1 : next ≤ 1099511627777) (hm : m < 18446744073709551616) (hc : wnCheck next m (n : Int) = 0) :
    Calls Tryz.prog 12 #[.pointer (some ⟨b, 0, none⟩), .int .i64 (n : Int), S (sealN suite recv n [] text), .int .i64 (now : Int)] w (Opened1 w b B send recv suite sealed first text next m n) := by
  have A1 := code_prold w b B send recv suite sealed first h now 180 180 rfl (by omega)
  have e1 : decide (180 ≤ now) = false := by simp; omega
  rw [e1] at A1
  have hwf : (Lit.int .i64 (n : Int)).wf = true := wf_i64 (by omega)
  have A2 := window_check w B next m n hw h0 h1 hm hwf
  rw [hc] at A2
  have A3 := fun W : World => noise_open W suite h12 recv [] text n (by omega) hk (by simp) ht
  have A4 := fun (W : World) (k : WnAt W B next m) => window_take W B next m n k h0 h1 hm hwf
  rw [hc] at A4
  obtain ⟨c0, c1, c2, c3, c4, c5, c6, f5⟩ := h.cells
  have wn : IntKind.u64.wrap (n : Int) = (n : Int) := IntWalk.u64_in _ (by omega)
  have H := Lib.hid h
  have HW := Lib.hid hw
  unfold Opened1
  generalize sealN suite recv n [] text = V at *
  clear h e1 hc hw h0 h1 hm c1 c2 c3 c4 c5 c6 f5 hwf
  unfold S at *
  go_enter Tryz.func12, Tryz.ntmps12
  go_wp2_with fail
  (with_reducible refine A1.mono ?_)
  rintro e x ⟨rfl, rfl⟩
  go_wp2_with fail
  (with_reducible refine A2.mono ?_)
  rintro e x ⟨rfl, hg⟩
  have H1 := H.out.kept hg nofun
  have HW1 := Lib.hid (HW.out.kept hg nofun)
  obtain ⟨c0, c1, c2, c3, c4, c5, c6, f5⟩ := H1.cells
  have HP1 := Lib.hid H1
  have HG1 := Lib.hid hg
  clear hg H1 c0 c1 c4 c5 c6 f5 H HW
  go_wp2_with fail
  go_region_held3 (fun W => W.cell? ⟨b, 2, none⟩ = some (.string ⟨recv.toArray⟩) ∧ W.cell? ⟨b, 3, none⟩ = some (.int .i64 (suite : Int))) (first | exact ⟨c2, c3⟩ | exact ⟨d2, d3⟩) (first
    | (go_at_call 33; (with_reducible refine (A3 _).mono ?_); rintro e x1 ⟨rfl, hg1⟩; have H2 : PairAt x1 b B send recv suite sealed first := Blk.kept (Blk.drew HP1.out) hg1 nofun; obtain ⟨d0, d1, d2, d3, d4, d5, d6, f5⟩ := H2.cells))
  all_goals
    have HW2 := HW1.out.kept (grow_trans (grow_drew (grow_refl _ none)) hg1) nofun
    have A5 := A4 _ HW2
    have HG2 := Lib.hid (grow_trans HG1.out (grow_trans (grow_drew (grow_refl _ none)) hg1))
    have HP2 := Lib.hid H2
    clear hg1 H2 d1 d2 d3 d4 d5 d6 f5 A4 HW2 HW1 HG1
    go_wp2_with fail
    (with_reducible refine A5.mono ?_)
    rintro e x3 ⟨rfl, hw3, hg3⟩
    have HP3 := HP2.out.kept hg3 (by simp; omega)
    go_wp2_with fail
    go_ret2
    exact ⟨rfl, HP3, hw3, grow_trans (grow_none HG2.out) hg3⟩

end Go.Proofs.YtcmncdaojmkfgaaGreatDoor

namespace Go.Proofs.YtcmncdaojmkfgaaGreatDoor
open Go.RowKit
set_option linter.unusedVariables false

theorem noise_large (w : World) (suite : Nat) (h12 : suite = 1 ∨ suite = 2) (key more text : List UInt8) (n : Nat) (hn : n < 18446744073709551616) (hk : key.length = 32) (hm : more.length ≤ 2000) (ht : 2000 < text.length) :
    Calls Tryz.prog 30 #[.int .i64 (suite : Int), S key, .int .u64 (n : Int), S more, S text] w (Grown (.tuple #[S [], .int .i64 2]) w) := by
  rcases h12 with rfl | rfl
  · exact code_nzSeal1 w key more text _ n 2 hn fun W => (code_seal_err W key (nonL 1 n) more text 2 (by unfold checkE; rw [if_pos ⟨hk, nonL_length 1 n⟩, if_neg (by omega)]) rfl).mono fun e w' ⟨h1, h2⟩ => ⟨h1, h2 ▸ grow_refl _ _⟩
  · exact code_nzSeal2 w key more text _ n 2 hn fun W => (code_gseal_err W key (nonL 2 n) more text 2 (by unfold gcheckE; rw [if_pos ⟨hk, nonL_length 2 n⟩, if_neg (by omega)]) rfl).mono fun e w' ⟨h1, h2⟩ => ⟨h1, h2 ▸ grow_refl _ _⟩

set_option maxRecDepth 100000 in
set_option maxHeartbeats 2000000 in
theorem code_prseal_large (w : World) (b B : Nat) (send recv : List UInt8) (suite sealed : Nat) (h12 : suite = 1 ∨ suite = 2) (first : Bool) (h : PairAt w b B send recv suite sealed first) (hk : send.length = 32) (now : Nat) (hn : now < 180) (hs : sealed < 1000) (text : List UInt8) (ht : 2000 < text.length) :
    Calls Tryz.prog 11 #[.pointer (some ⟨b, 0, none⟩), S text, .int .i64 (now : Int)] w (Grown (.tuple #[.int .i64 0, S [], .int .i64 2]) w) := by
  have A1 := code_prover w b B send recv suite sealed first h now hs
  have e1 : decide (180 ≤ now) = false := by simp; omega
  rw [e1] at A1
  have A2 := fun W : World => noise_large W suite h12 send [] text sealed (by omega) hk (by simp) ht
  have hlt := Blk.lt h
  obtain ⟨c0, c1, c2, c3, c4, c5, c6, f5⟩ := h.cells
  have wn : IntKind.u64.wrap (sealed : Int) = (sealed : Int) := IntWalk.u64_in _ (by omega)
  have H := Lib.hid h
  clear c0 c2 c4 c6 f5 e1 h12 h
  unfold S at *
  go_enter Tryz.func11, Tryz.ntmps11
  go_wp2_with fail
  (with_reducible refine A1.mono ?_)
  rintro e x ⟨rfl, rfl⟩
  go_wp2_with fail
  go_region_held3 (fun W => W.cell? ⟨b, 1, none⟩ = some (.string ⟨send.toArray⟩) ∧ W.cell? ⟨b, 3, none⟩ = some (.int .i64 (suite : Int)) ∧ W.cell? ⟨b, 5, none⟩ = some (.int .i64 (sealed : Int))) (first | exact ⟨c1, c3, c5⟩ | exact ⟨d1, d3, d5⟩) (first
    | (go_at_call 30; (with_reducible refine (A2 _).mono ?_); rintro e x1 ⟨rfl, hg1⟩; have H1 : PairAt x1 b B send recv suite sealed first := Blk.kept (Blk.drew H.out) hg1 nofun; obtain ⟨d0, d1, d2, d3, d4, d5, d6, f5⟩ := H1.cells))
  all_goals
    have HG := Lib.hid (grow_trans (grow_drew (grow_refl w none)) hg1)
    clear hg1 H1 d0 d1 d2 d3 d4 d6
    go_wp2_with fail
    refine bodyPost_ret (v := .tuple #[.int .i64 0, .string ⟨#[]⟩, .int .i64 2]) (by simp [results, Tryz.results11, go_sem]) rfl ?_
    exact ⟨rfl, HG.out⟩

end Go.Proofs.YtcmncdaojmkfgaaGreatDoor

namespace Go.Proofs.YtcmncdaojmkfgaaGreatDoor
open Go.RowKit
set_option linter.unusedVariables false

structure TwoAt (w : World) (a A b B : Nat) (x y : List UInt8) (suite sa sb : Nat) (na nb : Int) (ma mb : Nat) : Prop where
  pa : PairAt w a A x y suite sa true
  pb : PairAt w b B y x suite sb false
  wa : WnAt w A na ma
  wb : WnAt w B nb mb
structure Apart4 (w : World) (a A b B : Nat) : Prop where
  la : w.heap.size ≤ a
  lA : w.heap.size ≤ A
  lb : w.heap.size ≤ b
  lB : w.heap.size ≤ B
  aA : a ≠ A
  bB : b ≠ B
  ab : a ≠ b
  aB : a ≠ B
  bA : b ≠ A
  AB : A ≠ B
end Go.Proofs.YtcmncdaojmkfgaaGreatDoor

namespace Go.Proofs.YtcmncdaojmkfgaaGreatDoor
open Go.RowKit
set_option linter.unusedVariables false

theorem strs_of {w : World} {a : Option Addr} {len cap : Nat} (h : IsRecs [.str] w a len cap) : (len ≤ cap ∧ cap ≤ maxLen) ∧ ∃ ss : List (List UInt8), ss.length = len ∧ StrsAt w a ss ∧ ∀ s ∈ ss, s.length ≤ maxLen := by
  rcases h with ⟨rfl, rfl, rfl⟩ | ⟨x, rfl, h1, h2, h3⟩
  · exact ⟨⟨Nat.le_refl _, Nat.zero_le _⟩, [], rfl, fun i hi => absurd hi (Nat.not_lt_zero _), by simp⟩
  · have h' : ∀ i, i < len → ∃ s : List UInt8, w.cell? (x.add i) = some (S s) ∧ s.length ≤ maxLen := by
      intro i hi
      obtain ⟨v, hv, s, rfl, hw⟩ := h3 i hi 0 _ rfl
      refine ⟨s.data.toList, ?_, by rw [Array.length_toList]; exact hw⟩
      have e : S s.data.toList = .string s := rfl
      rw [e]
      simpa using hv
    refine ⟨⟨h1, h2⟩, (List.range len).map fun i => if hi : i < len then Classical.choose (h' i hi) else [], by simp, fun i hi => ⟨x, rfl, ?_⟩, fun s hs => ?_⟩
    · have hi' : i < len := by simpa using hi
      simp only [List.getElem_map, List.getElem_range, dif_pos hi']
      exact (Classical.choose_spec (h' i hi')).1
    · obtain ⟨i, hi, rfl⟩ := List.mem_map.1 hs
      have hi' : i < len := by simpa using hi
      simp only [dif_pos hi']
      exact (Classical.choose_spec (h' i hi')).2

end Go.Proofs.YtcmncdaojmkfgaaGreatDoor
