/-
  Several texts of this claim in one: Hex, IndexByte, Zeros, SRow, Strs, ByRow, KdfPad, Wire, ShaPlain, Little, BlakePlain, WireBig, ShaMix, ShaConst, Bro, BigBro2, TagPlain, Stir1, Stir, Poly, BigNum.
-/
import Derived.Test.YtmomfbkpniblgaaGreatDoorDgBytes
import Derived.StillTailTactics
import Derived.Lib.Bytealg
import Derived.Test.YtmomfbkpniblgaaGreatDoorShelf
import Derived.Test.YtmomfbkpniblgaaGreatDoorDgGrow
import Derived.Laws.IdiomStrings
import Derived.Test.YtmomfbkpniblgaaGreatDoorDg04
import Derived.Laws.BitsAllLaws
import Derived.Great.Walk
import Derived.ArgAppend
import Derived.Deep.RegionWith
import Derived.Deep.DrawnRows
import Derived.Laws.Externs
import Derived.Deep.RegionHeld3
namespace Go.Proofs.YtmomfbkpniblgaaGreatDoor
open Go.RowKit
set_option linter.unusedVariables false

def hexes : List UInt8 := [48, 49, 50, 51, 52, 53, 54, 55, 56, 57, 97, 98, 99, 100, 101, 102]
/-- The sign of a number below 16. -/
def hexD (n : Nat) : UInt8 := hexes.getD n 0
def hexC (c : UInt8) : List UInt8 := [hexD (c.toNat / 16), hexD (c.toNat % 16)]
def hexL (l : List UInt8) : List UInt8 := l.flatMap hexC

theorem hexL_length (l : List UInt8) : (hexL l).length = 2 * l.length := by
  induction l with
  | nil => rfl
  | cons c l ih => simp only [hexL, List.flatMap_cons, List.length_append, List.length_cons, hexC] at ih ⊢; rw [ih]; simp; omega

theorem hexL_append (l r : List UInt8) : hexL (l ++ r) = hexL l ++ hexL r := by simp [hexL]

theorem hexL_snoc (l : List UInt8) (k : Nat) (h : k < l.length) : hexL (l.take (k + 1)) = hexL (l.take k) ++ [hexD (l[k].toNat / 16), hexD (l[k].toNat % 16)] := by
  rw [List.take_succ_eq_append_getElem h, hexL_append]
  simp [hexL, hexC]

theorem hex_us {c : UInt8} (hc : c.toNat < 256) (h1 : ((c.toNat : Int) / 16).toNat < (ByteArray.mk #[48, 49, 50, 51, 52, 53, 54, 55, 56, 57, 97, 98, 99, 100, 101, 102]).size) (h2 : ((c.toNat : Int) % 16).toNat < (ByteArray.mk #[48, 49, 50, 51, 52, 53, 54, 55, 56, 57, 97, 98, 99, 100, 101, 102]).size) :
    (#[.int .u8 (((ByteArray.mk #[48, 49, 50, 51, 52, 53, 54, 55, 56, 57, 97, 98, 99, 100, 101, 102])[((c.toNat : Int) / 16).toNat]).toNat : Int), .int .u8 (((ByteArray.mk #[48, 49, 50, 51, 52, 53, 54, 55, 56, 57, 97, 98, 99, 100, 101, 102])[((c.toNat : Int) % 16).toNat]).toNat : Int)] : Array Value) = ([hexD (c.toNat / 16), hexD (c.toNat % 16)].map bcell).toArray := by
  have e1 : ((c.toNat : Int) / 16).toNat = c.toNat / 16 := by omega
  have e2 : ((c.toNat : Int) % 16).toNat = c.toNat % 16 := by omega
  simp only [e1, e2]
  have g : ∀ n (h : n < 16), (ByteArray.mk #[48, 49, 50, 51, 52, 53, 54, 55, 56, 57, 97, 98, 99, 100, 101, 102])[n]'h = hexD n := by
    intro n h
    simp only [hexD, hexes, List.getD]
    rw [List.getElem?_eq_getElem (by simpa using h)]
    rfl
  rw [g _ (by omega), g _ (by omega)]
  rfl

set_option maxHeartbeats 400000 in
theorem code_hex (w : World) (l : List UInt8) (hl : l.length ≤ 70368744177664) :
    Calls Tryz.prog 82 #[S l] w fun e w' => e = .returned (S (hexL l)) ∧ w.grownBy w' none := by
  unfold S
  go_enter Tryz.func82, Tryz.ntmps82
  go_wp2
  go_loopw [3, 7] (fun vb vi wr => ∃ k : Nat, k ≤ l.length ∧ vi = .int .i64 k ∧ brow wr w.heap.size vb (hexL (l.take k)) ∧ Below w.heap.size w wr) (fun _ vi _ => l.length - (intOf vi).toNat)
  case atStart => exact ⟨0, by omega, rfl, by simpa [hexL] using brow_nil _ _, Below.refl _ _⟩
  case round =>
    obtain ⟨k, hk, rfl, hown, HB⟩ := hrel
    by_cases hlt : k < l.length
    · have HS := Lib.hid (hexL_snoc l k hlt)
      go_wp2
      have hD1 : ((hexL (l.take k)).length) + 2 ≤ 140737488355328 := by rw [hexL_length, List.length_take]; omega
      have hz := HB.size
      have hkb : k < (ByteArray.mk l.toArray).size := by simpa [ByteArray.size] using hlt
      have hc : (ByteArray.mk l.toArray)[k] = l[k] := rfl
      have hcl := u8_lt l[k]
      generalize l[k] = c at *
      have i1 : (0 : Int) ≤ (c.toNat : Int) / 16 := by omega
      have i2 : (c.toNat : Int) / 16 < 16 := by omega
      have i3 : bits .and .u8 (c.toNat : Int) 15 = ((c.toNat % 16 : Nat) : Int) := by
        rw [show (15 : Int) = ((15 : Nat) : Int) from rfl, u8_and_nat _ _ hcl (by omega), nat_mask4]
      have i4 : (0 : Int) ≤ (c.toNat : Int) % 16 := by omega
      have i5 : (c.toNat : Int) % 16 < 16 := by omega
      go_region_held3 (fun _ => True) (first | trivial)
        (first
          | ((refine step_bytes (by rfl) _ _ (by rfl) w.heap.size _ _ (by rfl) ((hown.alloc _).drew) wr.heap.size _ 2 2 (by rfl) [hexD (c.toNat / 16), hexD (c.toNat % 16)] (obj_new_drew wr _) ?h2 (by rfl) (by simp) hD1 ?h3 ?_); (case h2 => exact hex_us hcl _ _); (case h3 => exact Nat.le_trans hz (by simp)); intro v' w' hown' hg' _))
      all_goals
        replace HB := own_below HB hown hz (grow_trans (grow_drew (World.grownBy_alloc wr _ _)) hg')
        rw [← HS.out] at hown'
        clear hown hg' hz
        go_wp2
        go_roundw
        case rel => exact ⟨k + 1, by omega, by go_num, hown', HB⟩
        case measure => simp [intOf]; omega
    · obtain rfl : k = l.length := by omega
      rw [List.take_length] at hown
      have hcv := conv_brow hown
      go_wp2
      go_ret
      exact ⟨rfl, grow_of_below HB⟩

end Go.Proofs.YtmomfbkpniblgaaGreatDoor

namespace Go.Proofs.YtmomfbkpniblgaaGreatDoor
open Go.RowKit
set_option linter.unusedVariables false

set_option maxHeartbeats 400000 in
theorem index_byte (w : World) (s : ByteArray) (c : Int) :
    Calls Tryz.prog 84 #[.string s, .int .u8 c] w fun e w' => e = .returned (.int .i64 (Lib.indexByte s.data.toList c.toNat.toUInt8)) ∧ w = w' := by
  have hext : ∀ (w : World), (callFunc 198 #[.string s, .int .u8 c]).run Tryz.prog w = .ok (.value (.int .i64 (Lib.indexByte s.data.toList c.toNat.toUInt8))) w := by
    intro w
    rw [run_callFunc_extern Tryz.func198 (by kernel_rfl) (by kernel_rfl) (by kernel_rfl) (e := Extern.BytealgIndexByte.indexByte) (by kernel_rfl), Lib.run_indexByteString]
    rfl
  go_enter Tryz.func84, Tryz.ntmps84
  go_wp2
  go_ret
  exact ⟨rfl, rfl⟩

end Go.Proofs.YtmomfbkpniblgaaGreatDoor

namespace Go.Proofs.YtmomfbkpniblgaaGreatDoor
open Go.RowKit
set_option linter.unusedVariables false

def zerosL (n : Nat) : List UInt8 := List.replicate n 0
def sizedL (l : List UInt8) (n : Nat) : List UInt8 := l.take n ++ zerosL (n - l.length)

theorem sizedL_length (l : List UInt8) (n : Nat) : (sizedL l n).length = n := by
  unfold sizedL zerosL
  rw [List.length_append, List.length_take, List.length_replicate]
  omega

theorem zerosL_length (n : Nat) : (zerosL n).length = n := by simp [zerosL]

theorem repeatL_zero (n : Nat) : Lib.repeatL [0] n = zerosL n := by
  induction n with
  | zero => rfl
  | succ n ih =>
    show [0] ++ Lib.repeatL [0] n = _
    rw [ih]
    rfl

/-- How the walk's strings read: joined, and cut. -/
theorem rule_app (a b : List UInt8) : ByteArray.mk a.toArray ++ ByteArray.mk b.toArray = ⟨(a ++ b).toArray⟩ := by
  rw [ByteArray.mk_append_mk]

theorem rule_ext (l : List UInt8) (a b : Nat) : (ByteArray.mk l.toArray).extract a b = ⟨((l.drop a).take (b - a)).toArray⟩ := by
  apply ByteArray.ext
  rw [ByteArray.data_extract]
  apply Array.toList_inj.1
  simp

theorem list_of (s : ByteArray) : ∃ l : List UInt8, s = ⟨l.toArray⟩ ∧ l.length = s.size := ⟨s.data.toList, rfl, by rw [Array.length_toList]; rfl⟩

def Grown (v : Value) (w : World) (e : Ending) (w' : World) : Prop := e = .returned v ∧ w.grownBy w' none

theorem repeat_zero (w : World) (n : Nat) (hn : n ≤ 140737488355328) : Calls Tryz.prog 62 #[.string ⟨#[0]⟩, .int .i64 n] w (Grown (S (zerosL n)) w) := by
  refine (Tryz.strings_Repeat ⟨#[0]⟩ n w (by omega) (by simpa [ByteArray.size] using hn)).mono ?_
  rintro e w' ⟨rfl, hb⟩
  refine ⟨?_, grow_of_below hb⟩
  rw [show (ByteArray.mk #[0]).data.toList = [0] from rfl, repeatL_zero]
  rfl

end Go.Proofs.YtmomfbkpniblgaaGreatDoor

namespace Go.Proofs.YtmomfbkpniblgaaGreatDoor
open Go.RowKit
set_option linter.unusedVariables false

/-- A slice of strings of the call's own. -/
def srow (w : World) (base : Nat) (v : Value) (ls : List (List UInt8)) : Prop := w.ownsRow base 9 1 v ls.length (ls.map S)
theorem info_str : (Tryz.prog.info? 9).map (fun i => (i.zero, i.size, i.bytes)) = some (some (.string ⟨#[]⟩), 1, 16) := by kernel_rfl
theorem srow_cells {w : World} {base : Nat} {v : Value} {ls : List (List UInt8)} (h : srow w base v ls) (hl : ls ≠ []) :
    ∃ g cap, v = .slice (some ⟨g, 0, none⟩) ls.length cap ∧ base ≤ g ∧ g < w.heap.size ∧ ls.length ≤ cap ∧ cap ≤ maxLen ∧ ∀ i (hi : i < ls.length), w.cell? ⟨g, i, none⟩ = some (S ls[i]) := by
  have h0 := h
  unfold srow at h
  rcases h.2 with ⟨_, hn⟩ | ⟨g, cap, cur, hv, hbg, hg, hnc, hcm, hcs, htake⟩
  · exact absurd (List.eq_nil_of_length_eq_zero hn) hl
  · subst hv
    refine ⟨g, cap, rfl, hbg, lt_of_obj hg, hnc, hcm, fun i hi => ?_⟩
    have e1 : (ls.map S)[i]? = some (S ls[i]) := by simp [hi]
    have e2 := h.cells (g := g) rfl i _ e1
    rw [show (⟨g, 0, none⟩ : Addr).add i = ⟨g, i, none⟩ from by cases i <;> simp [Addr.add]] at e2
    exact e2

theorem srow_nil (w : World) (base : Nat) : srow w base (.slice none 0 0) [] := World.ownsRow_nil _ _ _ _
theorem srow.kept {w w' : World} {base : Nat} {v : Value} {ls : List (List UInt8)} {r : Option Nat} (h : srow w base v ls) (g : w.grownBy w' r) (hr : v.ownBlock = none ∨ v.ownBlock ≠ r) : srow w' base v ls := World.ownsRow.kept h g hr
theorem srow.keptN {w w' : World} {base : Nat} {v : Value} {ls : List (List UInt8)} (h : srow w base v ls) (g : w.grownBy w' none) : srow w' base v ls := World.ownsRow.kept h g (by cases v.ownBlock <;> simp)
/-- Rows whose first strings differ lie in blocks of their own. -/
theorem srow_apart {w : World} {base base' : Nat} {v v' : Value} {ls ls' : List (List UInt8)} (h : srow w base v ls) (h' : srow w base' v' ls') (hl : 0 < ls.length) (hl' : 0 < ls'.length) (hne : ls[0] ≠ ls'[0]) : v.ownBlock ≠ v'.ownBlock := by
  obtain ⟨g, cap, hv, _, _, _, _, hc⟩ := srow_cells h (List.ne_nil_of_length_pos hl)
  obtain ⟨g', cap', hv', _, _, _, _, hc'⟩ := srow_cells h' (List.ne_nil_of_length_pos hl')
  subst hv hv'
  intro e
  have eg : g = g' := by simpa [Value.ownBlock] using e
  subst eg
  have h1 := hc 0 hl
  have h2 := hc' 0 hl'
  rw [h1] at h2
  have h3 : S ls[0] = S ls'[0] := Option.some.inj h2
  unfold S at h3
  apply hne
  have h4 := Value.string.inj h3
  have h5 : ls[0].toArray = ls'[0].toArray := ByteArray.mk.inj h4
  exact Array.toList_inj.2 h5 |> fun h => by simpa using h
theorem srow_none {w : World} {base : Nat} {v : Value} {ls : List (List UInt8)} (h : srow w base v ls) (hl : ls.length = 0) : v.ownBlock = none ∨ ∃ g, v.ownBlock = some g ∧ base ≤ g := by
  rcases h.2 with ⟨e, _⟩ | ⟨g, cap, cur, hv, hbg, _⟩
  · left; rw [e]; rfl
  · right; exact ⟨g, by rw [hv]; rfl, hbg⟩
theorem srow_own {w : World} {base : Nat} {v : Value} {ls : List (List UInt8)} (h : srow w base v ls) : ∀ k, v.ownBlock = some k → base ≤ k ∧ k < w.heap.size := by
  intro k hk
  rcases h.2 with ⟨e, _⟩ | ⟨g, cap, cur, hv, hbg, hg, _⟩
  · rw [e] at hk; cases hk
  · rw [hv] at hk
    obtain rfl : g = k := by simpa [Value.ownBlock] using hk
    exact ⟨hbg, lt_of_obj hg⟩

/-- 'l = append(l, s)' -/
theorem append_str {w : World} {ops : Array Oper} {rest : List Oper} {o : Oper} {a : Act} {Q : Exit → Act → World → Prop} (hgd : o.guard = none) (s x : Operand)
    (ho : o.op = .call { callee := .builtin .append, args := #[s, x], argTypes := #[22, 22] })
    (base : Nat) (v : Value) (ls : List (List UInt8)) (hs : a.eval s = v) (hown : srow w base v ls) (t : List UInt8) (u : Value) (hu : u = S t)
    (hx : a.eval x = .slice (some ⟨w.heap.size, 0, none⟩) 1 1) (hroom : (ls.length + 1) * 16 ≤ 140737488355328) (hbase : base ≤ w.heap.size)
    (h : ∀ v' w', srow w' base v' (ls ++ [t]) → w.grownBy w' v.ownBlock → wpList Tryz.prog ops Q rest (a.put o.dst v') w') : wpList Tryz.prog ops Q (o :: rest) a (w.alloc (.cells #[u] 9)) := by
  subst hu
  refine append_one hgd s x 22 ho base 9 (.string ⟨#[]⟩) 16 Tryz.underlying22 info_str rfl v ls.length (ls.map S) hs hown (S t) rfl hx (by omega) hroom hbase ?_
  intro v' w' h1 h2
  refine h v' w' ?_ h2
  unfold srow
  rw [List.length_append, List.map_append]
  exact h1

/-- A row of strings lies apart from a block of another type. -/
theorem srow_other {w : World} {base k : Nat} {v : Value} {ls : List (List UInt8)} {c : Array Value} {t : TypeId} {fr : Nat × Nat} (h : srow w base v ls) (hk : w.heap[k]? = some (.cells c t fr)) (ht : t ≠ 9) : v.ownBlock ≠ some k := by
  intro e
  rcases h.2 with ⟨e2, _⟩ | ⟨g, cap, cur, hv, hbg, hg, _⟩
  · rw [e2] at e; cases e
  · rw [hv] at e
    obtain rfl : g = k := by simpa [Value.ownBlock] using e
    rw [hg] at hk
    injection hk with hk
    injection hk with _ h2 _
    exact ht h2.symm

end Go.Proofs.YtmomfbkpniblgaaGreatDoor

namespace Go.Proofs.YtmomfbkpniblgaaGreatDoor
open Go.RowKit
set_option linter.unusedVariables false

/-- These strings lie in a row. -/
def StrsAt (w : World) (a : Option Addr) (ss : List (List UInt8)) : Prop := ∀ i (h : i < ss.length), ∃ x, a = some x ∧ w.cell? (x.add i) = some (S ss[i])

theorem StrsAt.kept {w w' : World} {r : Option Nat} {a : Option Addr} {ss : List (List UInt8)} (h : StrsAt w a ss) (g : w.grownBy w' r) (hr : ∀ x, a = some x → some x.block ≠ r) : StrsAt w' a ss := by
  intro i hi
  obtain ⟨x, hx, hc⟩ := h i hi
  refine ⟨x, hx, g.cell hc ?_⟩
  have : (x.add i).block = x.block := by unfold Addr.add; split <;> rfl
  rw [this]; exact hr x hx
theorem StrsAt.keptN {w w' : World} {a : Option Addr} {ss : List (List UInt8)} (h : StrsAt w a ss) (g : w.grownBy w' none) : StrsAt w' a ss := h.kept g (by simp)

/-- A slice of strings, which hold so many letters together at the most. -/
def IsStrs (w : World) (a : Option Addr) (len cap bound : Nat) : Prop := ∃ ss : List (List UInt8), ss.length = len ∧ len ≤ cap ∧ cap ≤ maxLen ∧ ss.flatten.length + ss.length ≤ bound ∧ StrsAt w a ss

theorem flat_succ (ss : List (List UInt8)) (k : Nat) (h : k < ss.length) : (ss.take (k + 1)).flatten = (ss.take k).flatten ++ ss[k] := by
  rw [List.take_succ_eq_append_getElem h, List.flatten_append]
  simp
theorem flat_le (ss : List (List UInt8)) (k : Nat) : (ss.take k).flatten.length ≤ ss.flatten.length := by
  have h : ss.flatten = (ss.take k).flatten ++ (ss.drop k).flatten := by rw [← List.flatten_append, List.take_append_drop]
  rw [h, List.length_append]
  omega
theorem flat_at (ss : List (List UInt8)) (k : Nat) (h : k < ss.length) : (ss.take k).flatten.length + ss[k].length ≤ ss.flatten.length := by
  have h1 := flat_le ss (k + 1)
  rw [flat_succ ss k h, List.length_append] at h1
  exact h1

end Go.Proofs.YtmomfbkpniblgaaGreatDoor

namespace Go.Proofs.YtmomfbkpniblgaaGreatDoor
open Go.RowKit
set_option linter.unusedVariables false

/-- The block b's first cells are these bytes, and they may be written. -/
def Bys (w : World) (b : Nat) (l : List UInt8) : Prop := ∀ i (h : i < l.length), w.cell? ⟨b, i, none⟩ = some (.int .u8 (l[i].toNat : Int)) ∧ w.frozen? ⟨b, i, none⟩ = false

theorem Bys.cell {w : World} {b : Nat} {l : List UInt8} (h : Bys w b l) (i : Nat) (hi : i < l.length) : w.cell? ⟨b, i, none⟩ = some (.int .u8 (l[i].toNat : Int)) := (h i hi).1
theorem Bys.frozen {w : World} {b : Nat} {l : List UInt8} (h : Bys w b l) (i : Nat) (hi : i < l.length) : w.frozen? ⟨b, i, none⟩ = false := (h i hi).2

theorem Bys.kept {w w' : World} {b : Nat} {l : List UInt8} {r : Option Nat} (h : Bys w b l) (hb : b < w.heap.size) (g : w.grownBy w' r) (hr : some b ≠ r) : Bys w' b l := by
  intro i hi
  have e := g.block b hb hr
  obtain ⟨h1, h2⟩ := h i hi
  refine ⟨g.cell (a := ⟨b, i, none⟩) h1 hr, ?_⟩
  unfold World.frozen? at h2 ⊢
  simp only at h2 ⊢
  rwa [e]

theorem Bys.drew {w : World} {b : Nat} {l : List UInt8} (h : Bys w b l) : Bys w.drew b l := h

theorem Bys.set {w : World} {b : Nat} {l : List UInt8} (h : Bys w b l) (k : Nat) (c : UInt8) (hk : k < l.length) : Bys (w.setCell ⟨b, k, none⟩ (.int .u8 (c.toNat : Int))) b (l.set k c) := by
  intro i hi
  rw [List.length_set] at hi
  obtain ⟨h1, h2⟩ := h i hi
  refine ⟨?_, by rw [World.frozen?_setCell]; exact h2⟩
  obtain ⟨h3, _⟩ := h k hk
  unfold World.cell? at h1 h3 ⊢
  simp only [World.setCell, Array.getElem?_modify] at h1 h3 ⊢
  simp only [if_true]
  cases hb : w.heap[b]? with
  | none => rw [hb] at h1; simp at h1
  | some o =>
    rw [hb] at h1 h3
    cases o with
    | cells cs t f =>
      simp only [Option.map_some, List.getElem_set] at h1 h3 ⊢
      have hks : k < cs.size := by
        rcases Nat.lt_or_ge k cs.size with q | q
        · exact q
        · simp [Array.getElem?_eq_none q] at h3
      have e0 : (none : Option Nat).isSome = false := rfl
      by_cases e : k = i
      · subst e
        simp [hks]
      · simp only [if_neg e] at *
        have h4 : cs[i]? = some (Value.int IntKind.u8 ↑l[i].toNat) := h1
        show (cs.setIfInBounds k _)[i]? = _
        rw [Array.getElem?_setIfInBounds, if_neg e, h4]
    | _ => simp at h1

theorem to_bytes (w : World) (l : List UInt8) (hl : l.length ≤ 9223372036854775807) :
    ∃ cap w', (convert 9 83 (.string ⟨l.toArray⟩)).run Tryz.prog w = .ok (.slice (some ⟨w.heap.size, 0, none⟩) l.length cap) w' ∧ l.length ≤ cap ∧ w.grownBy w' none ∧ w.heap.size < w'.heap.size ∧ Bys w' w.heap.size l := by
  have h := run_bytes_of_string (P := Tryz.prog) w 9 83 5 ⟨l.toArray⟩ Tryz.underlying9 Tryz.underlying83 Tryz.underlying5
  refine ⟨_, _, h, grownCap_ge _ _ _ _, grow_alloc (grow_drew (grow_refl _ _)) _, by simp, fun i hi => ?_⟩
  have hnew : ∀ o : Obj, (w.drew.alloc o).heap[w.heap.size]? = some o := fun o => obj_new w.drew o
  have hs : i < (bytesRow ⟨l.toArray⟩ (grownCap w (ByteArray.size ⟨l.toArray⟩) 0 5)).size := by
    unfold bytesRow
    simp [ByteArray.size]
    omega
  constructor
  · unfold World.cell?
    simp only [hnew]
    unfold bytesRow
    rw [Array.getElem?_append_left (by simpa using hi)]
    simp [hi]
  · unfold World.frozen?
    simp only [hnew, Bool.and_eq_false_iff, decide_eq_false_iff_not]
    left
    omega

theorem conv_bys {w : World} {b : Nat} {l : List UInt8} (h : Bys w b l) (cap : Nat) : (convert 83 9 (.slice (some ⟨b, 0, none⟩) l.length cap)).run Tryz.prog w = .ok (.string ⟨l.toArray⟩) w := by
  refine run_convert_bytes_back (P := Tryz.prog) w 83 9 5 ⟨b, 0, none⟩ cap l Tryz.underlying83 Tryz.underlying5 Tryz.underlying9 fun j hj => ?_
  have e : (⟨b, 0, none⟩ : Addr).add j = ⟨b, j, none⟩ := by unfold Addr.add; split <;> simp_all
  rw [e]
  exact h.cell j hj

end Go.Proofs.YtmomfbkpniblgaaGreatDoor

namespace Go.Proofs.YtmomfbkpniblgaaGreatDoor
open Go.RowKit
set_option linter.unusedVariables false

/-- The first i are turned. -/
def kmapK (f : UInt8 → UInt8) (l : List UInt8) (i : Nat) : List UInt8 := (l.map f).take i ++ l.drop i
theorem kmapK_zero (f : UInt8 → UInt8) (l : List UInt8) : kmapK f l 0 = l := rfl
theorem kmapK_all (f : UInt8 → UInt8) (l : List UInt8) (n : Nat) (h : l.length = n) : kmapK f l n = l.map f := by
  subst h
  unfold kmapK
  rw [List.drop_length, List.append_nil, List.take_of_length_le (by simp)]
theorem kmapK_length (f : UInt8 → UInt8) (l : List UInt8) (i : Nat) : (kmapK f l i).length = l.length := by
  unfold kmapK
  rw [List.length_append, List.length_take, List.length_drop, List.length_map]
  omega
theorem kmapK_at (f : UInt8 → UInt8) (l : List UInt8) (i : Nat) (h : i < l.length) : (kmapK f l i)[i]'(by rw [kmapK_length]; exact h) = l[i] := by
  unfold kmapK
  rw [List.getElem_append_right (by rw [List.length_take]; omega)]
  simp [Nat.min_eq_left (Nat.le_of_lt h)]
theorem kmapK_set (f : UInt8 → UInt8) (l : List UInt8) (i : Nat) (h : i < l.length) : (kmapK f l i).set i (f l[i]) = kmapK f l (i + 1) := by
  unfold kmapK
  rw [List.set_append_right _ _ (by rw [List.length_take]; omega), List.length_take, List.length_map, Nat.min_eq_left (Nat.le_of_lt h), Nat.sub_self]
  have e : l.drop i = l[i] :: l.drop (i + 1) := List.drop_eq_getElem_cons h
  rw [List.take_succ_eq_append_getElem (by simpa using h)]
  simp
  rw [e]
  rfl

/-- 'copy(b[:], text)': as many bytes as both have. -/
theorem run_copy_upto {P : Program} (w : World) (dT sT ty elem : TypeId) (b o dLen dCap : Nat) (l : List UInt8)
    (hu : P.underlying dT = some (.slice elem)) (hz : ∀ w, (Go.sizeOf elem).run P w = .ok 1 w)
    (hc : ∀ j, j < (l.take dLen).length → (w.cell? ⟨b, o + j, none⟩).isSome = true) (hf : ∀ j, j < (l.take dLen).length → w.frozen? ⟨b, o + j, none⟩ = false) :
    (Builtin.copy_ #[dT, sT] ty #[.slice (some ⟨b, o, none⟩) dLen dCap, .string ⟨l.toArray⟩]).run P w = .ok (goInt (Nat.min l.length dLen : Nat)) (w.setCells b o ((l.take dLen).map bcell)) := by
  have hst := run_storeCells_cells (P := P) b o ((l.take dLen).map bcell) 0 w (by rw [List.length_map]; simpa using hc) (by rw [List.length_map]; simpa using hf) (by
    intro v hv
    obtain ⟨x, _, rfl⟩ := List.mem_map.1 hv
    rfl)
  simp only [Nat.add_zero] at hst
  have e : (l.map fun x => Value.int IntKind.u8 (x.toNat : Int)).take (Nat.min l.length dLen) = (l.take dLen).map bcell := by
    rw [← List.map_take]
    show (l.take (min l.length dLen)).map bcell = _
    rw [Nat.min_comm, ← List.take_take, List.take_length]
  simp [Builtin.copy_, run_underlying hu, Builtin.lenOf, Builtin.firstCells, hz]
  rw [show (ByteArray.mk l.toArray).size = l.length from by simp [ByteArray.size], e, hst]
  simp only [Result.andThen_ok, ← List.map_take]

def padM (key : List UInt8) (c : UInt8) : List UInt8 := (sizedL key 64).map fun x => x ^^^ c
theorem padM_length (key : List UInt8) (c : UInt8) : (padM key c).length = 64 := by unfold padM; rw [List.length_map, sizedL_length]
def PB (w : World) (B : Nat) (l : List UInt8) : Prop := Blk w B 239 (l.map bcell)
theorem PB.bys {w : World} {B : Nat} {l : List UInt8} (h : PB w B l) : Bys w B l := fun i hi => ⟨by rw [Blk.cell h, List.getElem?_map, List.getElem?_eq_getElem hi]; rfl, Blk.frozen h i⟩
theorem info_u8s : (Tryz.prog.info? 5).map (·.size) = some 1 := by kernel_rfl
theorem xor_u8 (a c : UInt8) : bits .xor .u8 (a.toNat : Int) (c.toNat : Int) = (((a ^^^ c).toNat : Nat) : Int) := by
  rw [u8_xor_nat _ _ (u8_lt a) (u8_lt c), UInt8.toNat_xor]
theorem pad_copied {w : World} {B : Nat} (h : PB w B (zerosL 64)) (key : List UInt8) (hk : key.length ≤ 64) : PB (w.setCells B 0 ((key.take 64).map bcell)) B (sizedL key 64) := by
  rcases setCells_obj B ((key.take 64).map bcell) 0 w ((zerosL 64).map bcell) 239 h with h1 | h1
  · have e : (((zerosL 64).map bcell).take 0 ++ (key.take 64).map bcell ++ ((zerosL 64).map bcell).drop (0 + ((key.take 64).map bcell).length)).take ((zerosL 64).map bcell).length = (sizedL key 64).map bcell := by
      have e1 : (zerosL 64).drop key.length = zerosL (64 - key.length) := by unfold zerosL; rw [List.drop_replicate]
      rw [List.take_zero, List.nil_append, Nat.zero_add, List.length_map, List.length_map, List.take_of_length_le hk, ← List.map_drop, e1, ← List.map_append, ← List.map_take]
      unfold sizedL
      rw [List.take_of_length_le hk, List.take_of_length_le (by simp [zerosL]; omega)]
    rw [e] at h1
    exact h1
  · exfalso
    simp [zerosL] at h1
    omega

set_option maxRecDepth 20000 in
set_option maxHeartbeats 2000000 in
theorem code_pad (w : World) (key : List UInt8) (c : UInt8) (hk : key.length ≤ 64) : Calls Tryz.prog 106 #[S key, .int .u8 (c.toNat : Int)] w (Grown (S (padM key c)) w) := by
  obtain ⟨B, hB⟩ : ∃ B, B = w.heap.size := ⟨_, rfl⟩
  obtain ⟨x, hx⟩ : ∃ x, x = w.alloc (.cells #[.int .u8 0, .int .u8 0, .int .u8 0, .int .u8 0, .int .u8 0, .int .u8 0, .int .u8 0, .int .u8 0, .int .u8 0, .int .u8 0, .int .u8 0, .int .u8 0, .int .u8 0, .int .u8 0, .int .u8 0, .int .u8 0, .int .u8 0, .int .u8 0, .int .u8 0, .int .u8 0, .int .u8 0, .int .u8 0, .int .u8 0, .int .u8 0, .int .u8 0, .int .u8 0, .int .u8 0, .int .u8 0, .int .u8 0, .int .u8 0, .int .u8 0, .int .u8 0, .int .u8 0, .int .u8 0, .int .u8 0, .int .u8 0, .int .u8 0, .int .u8 0, .int .u8 0, .int .u8 0, .int .u8 0, .int .u8 0, .int .u8 0, .int .u8 0, .int .u8 0, .int .u8 0, .int .u8 0, .int .u8 0, .int .u8 0, .int .u8 0, .int .u8 0, .int .u8 0, .int .u8 0, .int .u8 0, .int .u8 0, .int .u8 0, .int .u8 0, .int .u8 0, .int .u8 0, .int .u8 0, .int .u8 0, .int .u8 0, .int .u8 0, .int .u8 0] 239) := ⟨_, rfl⟩
  have bz : PB x B (zerosL 64) := by rw [hx, hB]; exact obj_new _ _
  have hgx : w.grownBy x none := by rw [hx]; exact grow_alloc (grow_refl w none) _
  have hcp := run_copy_upto (P := Tryz.prog) x 83 9 3 5 B 0 64 64 key Tryz.underlying83 (fun W => size_of_info info_u8s W)
    (fun j hj => by rw [Nat.zero_add, Blk.cell bz j, List.getElem?_eq_getElem (by rw [List.length_take] at hj; simp [zerosL]; omega)]; rfl) (fun j hj => Blk.frozen bz _)
  have b1 := pad_copied bz key hk
  have hg1 : w.grownBy (x.setCells B 0 ((key.take 64).map bcell)) none := grow_setCells_new hgx B (by omega) _ _
  obtain ⟨y, hy⟩ : ∃ y, y = x.setCells B 0 ((key.take 64).map bcell) := ⟨_, rfl⟩
  rw [← hy] at hcp b1 hg1
  have lz := sizedL_length key 64
  have hfin : padM key c = kmapK (fun x => x ^^^ c) (sizedL key 64) 64 := by rw [kmapK_all _ _ 64 lz]; rfl
  obtain ⟨V, hV⟩ : ∃ V, V = padM key c := ⟨_, rfl⟩
  rw [← hV] at hfin ⊢
  obtain ⟨l, hl⟩ : ∃ l, l = sizedL key 64 := ⟨_, rfl⟩
  rw [← hl] at b1 lz hfin
  have HFV := Lib.hid hfin
  have HB1 := Lib.hid b1
  have HG1 := Lib.hid hg1
  have HX := Lib.hid hx
  have HBB := Lib.hid hB
  have HLZ := Lib.hid lz
  have HFIN : Hid (kmapK (fun x => x ^^^ c) l 0 = l) := Lib.hid (kmapK_zero _ _)
  clear hB hx bz hgx b1 hg1 hy lz hfin hl hV
  unfold S
  go_enter Tryz.func106, Tryz.ntmps106
  go_upto_region 2 with (fail)
  rw [← HBB.out, ← HX.out]
  go_upto_region 3 with (fail)
  clear hcp
  go_wp2_with fail
  go_loopw [10] (fun v10 wr => ∃ i : Nat, i ≤ 64 ∧ v10 = .int .i64 i ∧ Hid (PB wr B (kmapK (fun x => x ^^^ c) l i)) ∧ Hid (w.grownBy wr none)) (fun v10 _ => 64 - (intOf v10).toNat)
  case atStart => exact ⟨0, by omega, rfl, by rw [HFIN.out]; exact HB1, HG1⟩
  case round =>
    clear HB1 HG1
    obtain ⟨i, hi, rfl, hK, hg⟩ := hrel
    have lm : (kmapK (fun x => x ^^^ c) l i).length = 64 := by rw [kmapK_length, HLZ.out]
    by_cases hlt : i < 64
    · have hil : i < l.length := by rw [HLZ.out]; exact hlt
      have ca : wr.cell? ⟨B, i, none⟩ = some (.int .u8 (l[i].toNat : Int)) := by
        rw [Blk.cell hK.out, List.getElem?_map, List.getElem?_eq_getElem (by omega), kmapK_at _ _ _ hil]
        rfl
      have cf : wr.frozen? ⟨B, i, none⟩ = false := Blk.frozen hK.out i
      have hs := Blk.set hK.out i (bcell (l[i] ^^^ c))
      rw [← List.map_set, kmapK_set (fun x => x ^^^ c) l i hil] at hs
      have xb := xor_u8 l[i] c
      have HS := Lib.hid hs
      have HG := Lib.hid (grow_setCell_new hg.out ⟨B, i, none⟩ (by have := HBB.out; simp; omega) (bcell (l[i] ^^^ c)))
      unfold bcell at HS HG
      clear hs hK hg lm
      generalize (l[i] ^^^ c).toNat = n at *
      generalize l[i].toNat = a at *
      have hd : decide ((i : Int) < 64) = true := by simp; omega
      go_wp2_with fail
      go_roundw
      case rel => exact ⟨i + 1, by omega, by go_num, HS, HG⟩
      case measure => simp [intOf]; omega
    · obtain rfl : i = 64 := by omega
      have hcv := conv_bys (PB.bys hK.out) 64
      rw [lm] at hcv
      rw [← HFV.out] at hcv
      clear hK lm hlt
      go_wp2_with fail
      go_ret
      exact ⟨rfl, hg.out⟩

end Go.Proofs.YtmomfbkpniblgaaGreatDoor

namespace Go.Proofs.YtmomfbkpniblgaaGreatDoor
open Go.RowKit
set_option linter.unusedVariables false

/-- So many bytes of a number, the highest one first. -/
def bigB (n many : Nat) : List UInt8 := (List.range many).map fun i => UInt8.ofNat (n / 2 ^ (8 * (many - 1 - i)))

def OwnBytes (w : World) (base : Nat) (l : List UInt8) (e : Ending) (w' : World) : Prop := ∃ v', e = .returned v' ∧ brow w' base v' l ∧ Below base w w'

theorem bigB_length (n many : Nat) : (bigB n many).length = many := by simp [bigB]

theorem bigB_snoc (n many j : Nat) (h : j < many) : (bigB n many).take (j + 1) = (bigB n many).take j ++ [UInt8.ofNat (n / 2 ^ (8 * (many - 1 - j)))] := by
  rw [List.take_succ_eq_append_getElem (by rw [bigB_length]; exact h)]
  simp [bigB]

set_option maxHeartbeats 400000 in
theorem wire_appendBig (w : World) (base : Nat) (v : Value) (l : List UInt8) (n : Nat) (many : Int) (hown : brow w base v l) (hn : n < 18446744073709551616) (hm : 0 ≤ many) (hm8 : many ≤ 8) (hl : l.length + 8 ≤ 140737488355328) (hb : base ≤ w.heap.size) :
    Calls Tryz.prog 70 #[v, .int .u64 n, .int .i64 many] w (OwnBytes w base (l ++ bigB n many.toNat)) := by
  obtain ⟨k, rfl⟩ := Int.eq_ofNat_of_zero_le hm
  rw [Int.toNat_natCast]
  go_enter Tryz.func70, Tryz.ntmps70
  go_wp2
  go_loopw [0, 9] (fun vb vi wr => ∃ j : Nat, j ≤ k ∧ vi = .int .i64 j ∧ brow wr base vb (l ++ (bigB n k).take j) ∧ Below base w wr) (fun _ vi _ => k - (intOf vi).toNat)
  case atStart => exact ⟨0, by omega, rfl, by simpa using hown, Below.refl _ _⟩
  case round =>
    obtain ⟨j, hj, rfl, hown, HB⟩ := hrel
    have hlen := bigB_length n k
    have hbz := HB.size
    by_cases hlt : j < k
    · have hsn := bigB_snoc n k j hlt
      have HS := Lib.hid hsn
      clear hsn
      have e1 : 0 ≤ 8 * ((k : Int) - 1 - j) := by omega
      have e2 : 8 * ((k : Int) - 1 - j) ≤ 64 := by omega
      go_wp2_with (at_builtin; go_must (refine append_byte rfl _ _ rfl base _ _ rfl hown (UInt8.ofNat (n / 2 ^ (8 * (k - 1 - j)))) _ ?c1 rfl (by simp; omega) (by omega) ?_))
      case c1 => rw [← bcell_of]; simp
      intro v' w' hown' hg'
      replace HB := own_below HB hown (by omega) hg'
      rw [← HS.out] at hown'
      clear hown hg' hbz
      go_wp2
      go_roundw
      case rel => exact ⟨j + 1, by omega, by go_num, hown', HB⟩
      case measure => simp [intOf]; omega
    · obtain rfl : j = k := by omega
      go_wp2
      go_ret
      exact ⟨_, rfl, by rw [List.take_of_length_le (by omega)] at hown; exact hown, HB⟩

/-- The number of bytes, the highest one first. -/
def bigN (l : List UInt8) : Nat := l.foldl (fun n c => n * 256 + c.toNat) 0

theorem bigN_snoc (l : List UInt8) (c : UInt8) : bigN (l ++ [c]) = bigN l * 256 + c.toNat := by simp [bigN, List.foldl_append]

theorem foldB_lt (l : List UInt8) : ∀ a : Nat, l.foldl (fun n c => n * 256 + c.toNat) a + 1 ≤ (a + 1) * 256 ^ l.length := by
  induction l with
  | nil => intro a; simp
  | cons c l ih =>
    intro a
    have h := ih (a * 256 + c.toNat)
    have hc := u8_lt c
    rw [List.foldl_cons, List.length_cons, Nat.pow_succ]
    refine Nat.le_trans h ?_
    rw [Nat.mul_comm (256 ^ l.length) 256, ← Nat.mul_assoc]
    exact Nat.mul_le_mul_right _ (by omega)

theorem bigN_lt (l : List UInt8) : bigN l < 256 ^ l.length := by
  have := foldB_lt l 0
  simp only [bigN]; omega

theorem bigN_lt8 (l : List UInt8) (h : l.length ≤ 8) : bigN l < 18446744073709551616 :=
  Nat.lt_of_lt_of_le (bigN_lt l) (Nat.pow_le_pow_right (by omega) h : 256 ^ l.length ≤ 256 ^ 8)

theorem bigN_take_lt (l : List UInt8) (j : Nat) (hj : j < l.length) (h : l.length ≤ 8) : bigN (l.take j) < 72057594037927936 := by
  refine Nat.lt_of_lt_of_le (bigN_lt _) (Nat.pow_le_pow_right (by omega) ?_ : 256 ^ (l.take j).length ≤ 256 ^ 7)
  rw [List.length_take]; omega

theorem or_byte (N : Nat) (c : UInt8) (h : N < 72057594037927936) : bits .or .u64 ((N : Int) * 256) (IntKind.u64.wrap (c.toNat : Int)) = ((N * 256 + c.toNat : Nat) : Int) := by
  have hc := u8_lt c
  have e1 : IntKind.u64.wrap (c.toNat : Int) = ((c.toNat : Nat) : Int) := IntWalk.u64_in _ (by omega)
  rw [e1, show ((N : Int) * 256) = ((N * 256 : Nat) : Int) from by simp, u64_or_nat _ _ (by omega) (by omega), nat_join 8 _ _ (by omega) (by omega)]

theorem extract_list (l : List UInt8) (a b : Nat) : ((ByteArray.mk l.toArray).extract a b).data.toList = (l.drop a).take (b - a) := by
  rw [ByteArray.extract_mk]

end Go.Proofs.YtmomfbkpniblgaaGreatDoor

namespace Go.Proofs.YtmomfbkpniblgaaGreatDoor
set_option linter.unusedVariables false

def sadd (a b : Nat) : Nat := (a + b) % 4294967296
def shaK : List Nat := [
  0x428a2f98, 0x71374491, 0xb5c0fbcf, 0xe9b5dba5, 0x3956c25b, 0x59f111f1, 0x923f82a4, 0xab1c5ed5,
  0xd807aa98, 0x12835b01, 0x243185be, 0x550c7dc3, 0x72be5d74, 0x80deb1fe, 0x9bdc06a7, 0xc19bf174,
  0xe49b69c1, 0xefbe4786, 0x0fc19dc6, 0x240ca1cc, 0x2de92c6f, 0x4a7484aa, 0x5cb0a9dc, 0x76f988da,
  0x983e5152, 0xa831c66d, 0xb00327c8, 0xbf597fc7, 0xc6e00bf3, 0xd5a79147, 0x06ca6351, 0x14292967,
  0x27b70a85, 0x2e1b2138, 0x4d2c6dfc, 0x53380d13, 0x650a7354, 0x766a0abb, 0x81c2c92e, 0x92722c85,
  0xa2bfe8a1, 0xa81a664b, 0xc24b8b70, 0xc76c51a3, 0xd192e819, 0xd6990624, 0xf40e3585, 0x106aa070,
  0x19a4c116, 0x1e376c08, 0x2748774c, 0x34b0bcb5, 0x391c0cb3, 0x4ed8aa4a, 0x5b9cca4f, 0x682e6ff3,
  0x748f82ee, 0x78a5636f, 0x84c87814, 0x8cc70208, 0x90befffa, 0xa4506ceb, 0xbef9a3f7, 0xc67178f2]
def shaI : List Nat := [0x6a09e667, 0xbb67ae85, 0x3c6ef372, 0xa54ff53a, 0x510e527f, 0x9b05688c, 0x1f83d9ab, 0x5be0cd19]

/-- turned to the right by a, by b, moved down by c -/
def mixS (x a b c : Nat) : Nat := (rotl32 x (32 - a) ^^^ rotl32 x (32 - b)) ^^^ x / 2 ^ c
/-- turned to the right by a, by b, by c -/
def mixR (x a b c : Nat) : Nat := (rotl32 x (32 - a) ^^^ rotl32 x (32 - b)) ^^^ rotl32 x (32 - c)

def wNext (b : List UInt8) (l : List Nat) (t : Nat) : Nat :=
  if t < 16 then bigN ((b.drop (4 * t)).take 4)
  else sadd (sadd (sadd (l.getD (t - 16) 0) (l.getD (t - 7) 0)) (mixS (l.getD (t - 15) 0) 7 18 3)) (mixS (l.getD (t - 2) 0) 17 19 10)
def sched (b : List UInt8) : Nat → List Nat
  | 0 => []
  | t + 1 => sched b t ++ [wNext b (sched b t) t]
theorem sched_length (b : List UInt8) : ∀ t, (sched b t).length = t
  | 0 => rfl
  | t + 1 => by rw [sched, List.length_append, sched_length b t]; rfl

def shaOne (v : List Nat) (k w : Nat) : Nat :=
  sadd (sadd (sadd (sadd (v.getD 7 0) (mixR (v.getD 4 0) 6 11 25)) ((v.getD 4 0 &&& v.getD 5 0) ^^^ ((4294967295 ^^^ v.getD 4 0) &&& v.getD 6 0))) k) w
def shaTwo (v : List Nat) : Nat :=
  sadd (mixR (v.getD 0 0) 2 13 22) (((v.getD 0 0 &&& v.getD 1 0) ||| (v.getD 0 0 &&& v.getD 2 0)) ||| (v.getD 1 0 &&& v.getD 2 0))
def shaR (v : List Nat) (k w : Nat) : List Nat :=
  [sadd (shaOne v k w) (shaTwo v), v.getD 0 0, v.getD 1 0, v.getD 2 0, sadd (v.getD 3 0) (shaOne v k w), v.getD 4 0, v.getD 5 0, v.getD 6 0]
def shaRs (ws v : List Nat) : Nat → List Nat
  | 0 => v
  | t + 1 => shaR (shaRs ws v t) (shaK.getD t 0) (ws.getD t 0)
def sumW (a b : List Nat) : List Nat := List.zipWith sadd a b
def takenL (s : List Nat) (b : List UInt8) : List Nat := sumW s (shaRs (sched b 64) s 64)

theorem shaRs_length (ws v : List Nat) (hv : v.length = 8) : ∀ t, (shaRs ws v t).length = 8
  | 0 => hv
  | t + 1 => rfl
theorem takenL_length (s : List Nat) (b : List UInt8) (hs : s.length = 8) : (takenL s b).length = 8 := by
  unfold takenL sumW
  rw [List.length_zipWith, shaRs_length _ _ hs, hs]; rfl

/-- all whole blocks of a text, and what is left of it -/
def absorb : Nat → List Nat → List UInt8 → List Nat × List UInt8
  | 0, s, r => (s, r)
  | f + 1, s, r => if 64 ≤ r.length then absorb f (takenL s (r.take 64)) (r.drop 64) else (s, r)
def absorbL (s : List Nat) (r : List UInt8) : List Nat × List UInt8 := absorb r.length s r

theorem absorb_fuel : ∀ (f g : Nat) (s : List Nat) (r : List UInt8), r.length ≤ 64 * f → r.length ≤ 64 * g → absorb f s r = absorb g s r
  | 0, 0, s, r, _, _ => rfl
  | 0, g + 1, s, r, h, _ => by rw [absorb, absorb, if_neg (by omega)]
  | f + 1, 0, s, r, _, h => by rw [absorb, absorb, if_neg (by omega)]
  | f + 1, g + 1, s, r, h1, h2 => by
    rw [absorb, absorb]
    split
    · exact absorb_fuel f g _ _ (by rw [List.length_drop]; omega) (by rw [List.length_drop]; omega)
    · rfl

theorem absorb_app : ∀ (f g : Nat) (s : List Nat) (r t : List UInt8), r.length ≤ 64 * f → r.length + t.length ≤ 64 * g →
    absorb g s (r ++ t) = absorb g (absorb f s r).1 ((absorb f s r).2 ++ t)
  | 0, g, s, r, t, h1, h2 => rfl
  | f + 1, g, s, r, t, h1, h2 => by
    rw [absorb]
    by_cases h : 64 ≤ r.length
    · rw [if_pos h]
      cases g with
      | zero => omega
      | succ g =>
        rw [absorb, if_pos (by rw [List.length_append]; omega), List.take_append_of_le_length h, List.drop_append_of_le_length h]
        rw [absorb_app f g _ _ t (by rw [List.length_drop]; omega) (by rw [List.length_drop]; omega)]
        refine absorb_fuel _ _ _ _ ?_ ?_
        · have : ((absorb f (takenL s (r.take 64)) (r.drop 64)).2).length ≤ (r.drop 64).length := by
            clear h2 h1
            generalize takenL s (r.take 64) = s'
            generalize r.drop 64 = r'
            induction f generalizing s' r' with
            | zero => exact Nat.le_refl _
            | succ f ih =>
              rw [absorb]; split
              · exact Nat.le_trans (ih _ _) (by rw [List.length_drop]; omega)
              · exact Nat.le_refl _
          rw [List.length_drop] at this
          rw [List.length_append]; omega
        · have : ((absorb f (takenL s (r.take 64)) (r.drop 64)).2).length ≤ (r.drop 64).length := by
            clear h2 h1
            generalize takenL s (r.take 64) = s'
            generalize r.drop 64 = r'
            induction f generalizing s' r' with
            | zero => exact Nat.le_refl _
            | succ f ih =>
              rw [absorb]; split
              · exact Nat.le_trans (ih _ _) (by rw [List.length_drop]; omega)
              · exact Nat.le_refl _
          rw [List.length_drop] at this
          rw [List.length_append]; omega
    · rw [if_neg h]

theorem absorb_rest : ∀ (f : Nat) (s : List Nat) (r : List UInt8), r.length ≤ 64 * f → (absorb f s r).2.length < 64
  | 0, s, r, h => by rw [absorb]; show r.length < 64; omega
  | f + 1, s, r, h => by
    rw [absorb]
    split
    · exact absorb_rest f _ _ (by rw [List.length_drop]; omega)
    · show r.length < 64; omega
theorem absorb_len8 : ∀ (f : Nat) (s : List Nat) (r : List UInt8), s.length = 8 → (absorb f s r).1.length = 8
  | 0, s, r, h => h
  | f + 1, s, r, h => by
    rw [absorb]; split
    · exact absorb_len8 f _ _ (takenL_length _ _ h)
    · exact h

/-- what has come in: state, rest -/
def shaS (t : List UInt8) : List Nat × List UInt8 := absorb (t.length + 1) shaI t
theorem shaS_rest (t : List UInt8) : (shaS t).2.length < 64 := absorb_rest _ _ _ (by omega)
theorem shaS_len (t : List UInt8) : (shaS t).1.length = 8 := absorb_len8 _ _ _ rfl
theorem shaS_app (t u : List UInt8) : shaS (t ++ u) = absorb (u.length + 1) (shaS t).1 ((shaS t).2 ++ u) := by
  unfold shaS
  rw [absorb_app (t.length + 1) ((t ++ u).length + 1) shaI t u (by omega) (by rw [List.length_append]; omega)]
  have := shaS_rest t
  unfold shaS at this
  refine absorb_fuel _ _ _ _ ?_ ?_ <;> · rw [List.length_append]; try rw [List.length_append]
                                         omega

/-- the end: 128, noughts, the number of bits -/
def shaPad (r : List UInt8) : List UInt8 := r ++ [128] ++ List.replicate ((119 - r.length % 64) % 64) 0
def digest (s : List Nat) : List UInt8 := s.flatMap fun n => bigB n 4
def shaEnd (s : List Nat) (r : List UInt8) (many : Nat) : List UInt8 := digest (absorb 2 s (shaPad r ++ bigB (8 * many % 18446744073709551616) 8)).1
def shaL (t : List UInt8) : List UInt8 := shaEnd (shaS t).1 (shaS t).2 (t.length % 18446744073709551616)

theorem digest_length (s : List Nat) : (digest s).length = 4 * s.length := by
  unfold digest
  induction s with
  | nil => rfl
  | cons a s ih => rw [List.flatMap_cons, List.length_append, ih, bigB_length, List.length_cons]; omega
theorem shaL_length (t : List UInt8) : (shaL t).length = 32 := by
  unfold shaL shaEnd
  rw [digest_length, absorb_len8 _ _ _ (shaS_len t)]

end Go.Proofs.YtmomfbkpniblgaaGreatDoor

namespace Go.Proofs.YtmomfbkpniblgaaGreatDoor
open Go.RowKit
set_option linter.unusedVariables false

/-- The number of bytes, the lowest first. -/
def leN : List UInt8 → Nat
  | [] => 0
  | c :: l => c.toNat + 256 * leN l

theorem leN_snoc (l : List UInt8) (c : UInt8) : leN (l ++ [c]) = leN l + c.toNat * 256 ^ l.length := by
  induction l with
  | nil => simp [leN]
  | cons d l ih =>
    simp only [List.cons_append, leN, ih, List.length_cons, Nat.pow_succ]
    rw [Nat.mul_add, ← Nat.add_assoc, Nat.mul_left_comm, Nat.mul_comm 256 (256 ^ l.length)]

theorem leN_lt (l : List UInt8) : leN l < 256 ^ l.length := by
  induction l with
  | nil => simp [leN]
  | cons d l ih =>
    have := u8_lt d
    simp only [leN, List.length_cons, Nat.pow_succ]
    omega

theorem leN_lt8 (l : List UInt8) (h : l.length ≤ 8) : leN l < 18446744073709551616 :=
  Nat.lt_of_lt_of_le (leN_lt l) (Nat.pow_le_pow_right (by omega) h : 256 ^ l.length ≤ 256 ^ 8)

/-- Bytes of a number, the lowest first. -/
def leB (n : Nat) : Nat → List UInt8
  | 0 => []
  | k + 1 => UInt8.ofNat n :: leB (n / 256) k

theorem leB_length (n k : Nat) : (leB n k).length = k := by
  induction k generalizing n with
  | zero => rfl
  | succ k ih => simp [leB, ih]

theorem leB_snoc (n k : Nat) : leB n (k + 1) = leB n k ++ [UInt8.ofNat (n / 256 ^ k)] := by
  induction k generalizing n with
  | zero => simp [leB]
  | succ k ih =>
    rw [leB, ih (n / 256)]
    simp only [leB, List.cons_append, Nat.pow_succ, Nat.div_div_eq_div_mul, Nat.mul_comm]

theorem leN_leB (n k : Nat) : leN (leB n k) = n % 256 ^ k := by
  induction k generalizing n with
  | zero => simp [leB, leN, Nat.mod_one]
  | succ k ih =>
    simp only [leB, leN, ih, UInt8.toNat_ofNat']
    rw [show 256 ^ (k + 1) = 256 * 256 ^ k from by rw [Nat.pow_succ, Nat.mul_comm], Nat.mod_mul]

theorem leB_leN (l : List UInt8) : leB (leN l) l.length = l := by
  induction l with
  | nil => rfl
  | cons c l ih =>
    have hc := u8_lt c
    simp only [leN, List.length_cons, leB]
    rw [show (c.toNat + 256 * leN l) / 256 = leN l from by omega, ih]
    congr 1
    apply UInt8.toNat_inj.1
    rw [UInt8.toNat_ofNat']
    omega

theorem pow256 (j : Nat) : 2 ^ (8 * j) = 256 ^ j := by rw [Nat.pow_mul]

theorem or_shl (N c j : Nat) (hN : N < 256 ^ j) (hc : c < 256) (hj : j < 8) : bits .or .u64 (N : Int) ((c * 256 ^ j : Nat) : Int) = ((N + c * 256 ^ j : Nat) : Int) := by
  have h1 : 256 ^ (j + 1) ≤ 256 ^ 8 := Nat.pow_le_pow_right (by omega) (by omega)
  have h2 : c * 256 ^ j + 256 ^ j ≤ 256 ^ (j + 1) := by
    rw [Nat.pow_succ, ← Nat.succ_mul, Nat.mul_comm]
    exact Nat.mul_le_mul_left _ hc
  have h3 : (256 : Nat) ^ 8 = 18446744073709551616 := by decide
  rw [u64_or_nat _ _ (by omega) (by omega)]
  congr 1
  rw [← pow256, Nat.mul_comm c, Nat.or_comm, ← Nat.two_pow_add_eq_or_of_lt (by rw [pow256]; exact hN), Nat.add_comm]

set_option maxHeartbeats 400000 in
theorem wire_little (w : World) (l : List UInt8) (hl : l.length ≤ 140737488355328) :
    Calls Tryz.prog 92 #[S l] w fun e w' => e = .returned (.int .u64 (leN (l.take 8))) ∧ w = w' := by
  obtain ⟨m, hm, m8, ml, hmin⟩ : ∃ m : Nat, m = min l.length 8 ∧ m ≤ 8 ∧ m ≤ l.length ∧ (if (8 : Int) < (l.length : Int) then (8 : Int) else (l.length : Int)) = (m : Int) := ⟨_, rfl, by omega, by omega, by split <;> omega⟩
  have htk : l.take 8 = l.take m := by
    rw [hm]
    rcases Nat.lt_or_ge l.length 8 with h | h
    · rw [List.take_of_length_le (by omega), List.take_of_length_le (by omega)]
    · rw [Nat.min_eq_right h]
  rw [htk]
  have HM := Lib.hid hm
  clear hm htk
  unfold S
  go_enter Tryz.func92, Tryz.ntmps92
  go_wp2_with fail
  go_loop [3, 8] (fun vn vi => ∃ j : Nat, j ≤ m ∧ vi = .int .i64 j ∧ vn = .int .u64 (leN (l.take j))) (fun _ vi => m - (intOf vi).toNat)
  case atStart => exact ⟨0, by omega, rfl, rfl⟩
  case round =>
    obtain ⟨j, hj, rfl, rfl⟩ := hrel
    by_cases hlt : j < m
    · have hb : leN (l.take j) < 256 ^ j := by have := leN_lt (l.take j); rwa [List.length_take, Nat.min_eq_left (by omega)] at this
      have hlj : j < l.length := by omega
      have hc := u8_lt l[j]
      have hor := or_shl (leN (l.take j)) l[j].toNat j hb hc (by omega)
      have e1 : 8 * (j : Int) ≤ 63 := by omega
      have e : bits .or .u64 (leN (l.take j) : Int) (IntKind.u64.wrap (IntKind.u64.wrap ((ByteArray.mk l.toArray)[j]'(by simpa [ByteArray.size] using hlj)).toNat * 2 ^ (8 * j))) = ((leN (l.take (j + 1)) : Nat) : Int) := by
        have h1 : ((l[j].toNat : Int)) * 2 ^ (8 * j) = ((l[j].toNat * 256 ^ j : Nat) : Int) := by rw [← pow256]; simp
        have h2 : (256 : Nat) ^ (j + 1) ≤ 256 ^ 8 := Nat.pow_le_pow_right (by omega) (by omega)
        have h3 : (256 : Nat) ^ 8 = 18446744073709551616 := by decide
        have h4 : l[j].toNat * 256 ^ j < 256 ^ (j + 1) := by
          rw [Nat.pow_succ, Nat.mul_comm]
          exact Nat.mul_lt_mul_of_pos_left hc (Nat.pow_pos (by omega))
        have h5 : IntKind.u64.wrap (l[j].toNat : Int) = (l[j].toNat : Int) := IntWalk.u64_in _ (by omega)
        show bits .or .u64 (leN (l.take j) : Int) (IntKind.u64.wrap (IntKind.u64.wrap (l[j].toNat : Int) * 2 ^ (8 * j))) = _
        rw [h5, h1, IntWalk.u64_in _ (by omega), hor, List.take_succ_eq_append_getElem hlj, leN_snoc, List.length_take, Nat.min_eq_left (by omega)]
      have E := Lib.hid e
      clear e hor
      go_wp2_with fail
      go_round
      case rel => exact ⟨j + 1, by omega, by go_num, by rw [← E.out]⟩
      case measure => simp [intOf]; omega
    · obtain rfl : j = m := by omega
      go_wp2_with fail
      go_ret
      exact ⟨rfl, rfl⟩

def OwnBytesN (w : World) (base : Nat) (l : List UInt8) (e : Ending) (w' : World) : Prop := ∃ v', e = .returned v' ∧ brow w' base v' l ∧ Below base w w'

set_option maxHeartbeats 400000 in
theorem wire_appendLittle (w : World) (base : Nat) (v : Value) (l : List UInt8) (n k : Nat) (hown : brow w base v l) (hn : n < 18446744073709551616) (hk : k ≤ 8) (hl : l.length + 8 ≤ 140737488355328) (hb : base ≤ w.heap.size) :
    Calls Tryz.prog 96 #[v, .int .u64 n, .int .i64 k] w (OwnBytesN w base (l ++ leB n k)) := by
  have hP : ∀ j, j ≤ k → (leB n j).length = j := fun j _ => leB_length n j
  go_enter Tryz.func96, Tryz.ntmps96
  go_wp2_with fail
  go_loopw [0, 9] (fun vb vi wr => ∃ j : Nat, j ≤ k ∧ vi = .int .i64 j ∧ brow wr base vb (l ++ leB n j) ∧ Below base w wr) (fun _ vi _ => k - (intOf vi).toNat)
  case atStart => exact ⟨0, by omega, rfl, by simpa [leB] using hown, Below.refl _ _⟩
  case round =>
    obtain ⟨j, hj, rfl, hown, HB⟩ := hrel
    have hbz := HB.size
    clear hP
    by_cases hlt : j < k
    · have hlen : (l ++ leB n j).length + 1 ≤ 140737488355328 := by rw [List.length_append, leB_length]; omega
      have HS := Lib.hid (leB_snoc n j)
      have e1 : 0 ≤ 8 * (j : Int) := by omega
      have e2 : 8 * (j : Int) ≤ 64 := by omega
      go_wp2_with (at_builtin; go_must (refine append_byte rfl _ _ rfl base _ _ rfl hown (UInt8.ofNat (n / 256 ^ j)) _ ?c1 rfl hlen (by omega) ?_))
      case c1 => rw [← bcell_of, ← pow256]; simp
      intro v' w' hown' hg'
      replace HB := own_below HB hown (by omega) hg'
      rw [← HS.out] at hown'
      clear hown hg' hbz
      go_wp2_with fail
      go_roundw
      case rel => exact ⟨j + 1, by omega, by go_num, hown', HB⟩
      case measure => simp [intOf]; omega
    · obtain rfl : j = k := by omega
      go_wp2_with fail
      go_ret
      exact ⟨_, rfl, hown, HB⟩

end Go.Proofs.YtmomfbkpniblgaaGreatDoor

namespace Go.Proofs.YtmomfbkpniblgaaGreatDoor
set_option linter.unusedVariables false

def blLines : List (List Nat) := [
  [0, 1, 2, 3, 4, 5, 6, 7, 8, 9, 10, 11, 12, 13, 14, 15],
  [14, 10, 4, 8, 9, 15, 13, 6, 1, 12, 0, 2, 11, 7, 5, 3],
  [11, 8, 12, 0, 5, 2, 15, 13, 10, 14, 3, 6, 7, 1, 9, 4],
  [7, 9, 3, 1, 13, 12, 11, 14, 2, 6, 5, 10, 4, 0, 15, 8],
  [9, 0, 5, 7, 2, 4, 10, 15, 14, 1, 11, 12, 6, 8, 3, 13],
  [2, 12, 6, 10, 0, 11, 8, 3, 4, 13, 7, 5, 15, 14, 1, 9],
  [12, 5, 1, 15, 14, 13, 4, 10, 0, 7, 6, 3, 9, 2, 8, 11],
  [13, 11, 7, 14, 12, 1, 3, 9, 5, 0, 15, 4, 8, 6, 2, 10],
  [6, 15, 14, 9, 11, 3, 0, 8, 12, 2, 13, 7, 1, 4, 10, 5],
  [10, 2, 8, 4, 7, 6, 1, 5, 15, 11, 9, 14, 3, 12, 13, 0]]
def blPlaces : List (List Nat) := [[0, 4, 8, 12], [1, 5, 9, 13], [2, 6, 10, 14], [3, 7, 11, 15], [0, 5, 10, 15], [1, 6, 11, 12], [2, 7, 8, 13], [3, 4, 9, 14]]

/-- The four numbers behind one mix. -/
def blMix4 (a b c d x y : Nat) : Nat × Nat × Nat × Nat :=
  let a := sadd a (sadd b x)
  let d := rotl32 (d ^^^ a) 16
  let c := sadd c d
  let b := rotl32 (b ^^^ c) 20
  let a := sadd a (sadd b y)
  let d := rotl32 (d ^^^ a) 24
  let c := sadd c d
  let b := rotl32 (b ^^^ c) 25
  (a, b, c, d)
def blMix (i j k l x y : Nat) (v : List Nat) : List Nat :=
  let r := blMix4 (v.getD i 0) (v.getD j 0) (v.getD k 0) (v.getD l 0) x y
  (((v.set i r.1).set j r.2.1).set k r.2.2.1).set l r.2.2.2
def blAt (p : List Nat) (x y : Nat) (v : List Nat) : List Nat := blMix (p.getD 0 0) (p.getD 1 0) (p.getD 2 0) (p.getD 3 0) x y v
def blLine (m l v : List Nat) : Nat → List Nat
  | 0 => v
  | i + 1 => blAt (blPlaces.getD i []) (m.getD (l.getD (2 * i) 0) 0) (m.getD (l.getD (2 * i + 1) 0) 0) (blLine m l v i)
def blRounds (m v : List Nat) : Nat → List Nat
  | 0 => v
  | r + 1 => blLine m (blLines.getD r []) (blRounds m v r) 8
def blWords (b : List UInt8) (n : Nat) : List Nat := (List.range n).map fun i => leN ((b.drop (4 * i)).take 4)
def blStart (h : List Nat) (many : Nat) (last : Bool) : List Nat :=
  let v := h ++ shaI
  let v := v.set 12 (v.getD 12 0 ^^^ many % 4294967296)
  let v := v.set 13 (v.getD 13 0 ^^^ many / 4294967296)
  if last then v.set 14 (4294967295 ^^^ v.getD 14 0) else v
def blBlock (h : List Nat) (b : List UInt8) (many : Nat) (last : Bool) : List Nat :=
  let v := blRounds (blWords b 16) (blStart h many last) 10
  (List.range 8).map fun i => h.getD i 0 ^^^ (v.getD i 0 ^^^ v.getD (i + 8) 0)

theorem blBlock_length (h : List Nat) (b : List UInt8) (many : Nat) (last : Bool) : (blBlock h b many last).length = 8 := by simp [blBlock]

def blFirst (klen many : Nat) : List Nat := shaI.set 0 (shaI.getD 0 0 ^^^ ((16842752 ^^^ klen * 256) ^^^ many))
/-- all blocks but the last -/
def blLoop : Nat → List Nat → List UInt8 → Nat → List Nat × List UInt8 × Nat
  | 0, h, s, at' => (h, s, at')
  | f + 1, h, s, at' => if 64 < s.length then blLoop f (blBlock h (s.take 64) (at' + 64) false) (s.drop 64) (at' + 64) else (h, s, at')
def leD (s : List Nat) : List UInt8 := s.flatMap fun n => leB n 4
def blText (key s : List UInt8) : List UInt8 := if key = [] then s else key ++ List.replicate (64 - key.length) 0 ++ s
def blL (key s : List UInt8) (many : Nat) : List UInt8 :=
  let r := blLoop (blText key s).length (blFirst key.length many) (blText key s) 0
  (leD (blBlock r.1 (r.2.1 ++ List.replicate (64 - r.2.1.length) 0) (r.2.2 + r.2.1.length) true)).take many

theorem leD_length (s : List Nat) : (leD s).length = 4 * s.length := by
  unfold leD
  induction s with
  | nil => rfl
  | cons a s ih => rw [List.flatMap_cons, List.length_append, ih, leB_length, List.length_cons]; omega
theorem blL_length (key s : List UInt8) (many : Nat) (h : many ≤ 32) : (blL key s many).length = many := by
  unfold blL
  simp only
  rw [List.length_take, leD_length, blBlock_length]
  omega

theorem bl_vec1 : blL [] [97, 98, 99] 32 = [0x50, 0x8c, 0x5e, 0x8c, 0x32, 0x7c, 0x14, 0xe2, 0xe1, 0xa7, 0x2b, 0xa3, 0x4e, 0xeb, 0x45, 0x2f, 0x37, 0x45, 0x8b, 0x20, 0x9e, 0xd6, 0x3a, 0x29, 0x4d, 0x99, 0x9b, 0x4c, 0x86, 0x67, 0x59, 0x82] := by decide +kernel
theorem bl_vec2 : blL [] [] 32 = [0x69, 0x21, 0x7a, 0x30, 0x79, 0x90, 0x80, 0x94, 0xe1, 0x11, 0x21, 0xd0, 0x42, 0x35, 0x4a, 0x7c, 0x1f, 0x55, 0xb6, 0x48, 0x2c, 0xa1, 0xa5, 0x1e, 0x1b, 0x25, 0x0d, 0xfd, 0x1e, 0xd0, 0xee, 0xf9] := by decide +kernel

end Go.Proofs.YtmomfbkpniblgaaGreatDoor

namespace Go.Proofs.YtmomfbkpniblgaaGreatDoor
open Go.RowKit
set_option linter.unusedVariables false

set_option maxHeartbeats 400000 in
theorem wire_big (w : World) (l : List UInt8) (hl : l.length ≤ 8) :
    Calls Tryz.prog 247 #[S l] w fun e w' => e = .returned (.int .u64 (bigN l)) ∧ w = w' := by
  unfold S
  go_enter Tryz.func247, Tryz.ntmps247
  go_wp2
  go_loop [3, 8] (fun vn vi => ∃ j : Nat, j ≤ l.length ∧ vi = .int .i64 j ∧ vn = .int .u64 (bigN (l.take j))) (fun _ vi => l.length - (intOf vi).toNat)
  case atStart => exact ⟨0, by omega, rfl, rfl⟩
  case round =>
    obtain ⟨j, hj, rfl, rfl⟩ := hrel
    by_cases hlt : j < l.length
    · have hb := bigN_take_lt l j hlt hl
      go_wp2
      go_round
      case rel =>
        have e : bits .or .u64 ((bigN (l.take j) : Int) * 256) (IntKind.u64.wrap ((ByteArray.mk l.toArray)[j]'(by simpa [ByteArray.size] using hlt)).toNat) = ((bigN (l.take (j + 1)) : Nat) : Int) := by
          rw [List.take_succ_eq_append_getElem hlt, bigN_snoc]
          exact or_byte _ _ hb
        exact ⟨j + 1, by omega, by go_num, by rw [← e]⟩
      case measure => simp [intOf]; omega
    · obtain rfl : j = l.length := by omega
      go_wp2
      go_ret
      exact ⟨ret_int (by first | rfl | rw [List.take_length]), rfl⟩

theorem wire_big_any (w : World) (s : ByteArray) (hs : s.size ≤ 8) :
    Calls Tryz.prog 247 #[.string s] w fun e w' => e = .returned (.int .u64 (bigN s.data.toList)) ∧ w = w' := by
  have h := wire_big w s.data.toList (by rw [Array.length_toList]; exact hs)
  exact h

end Go.Proofs.YtmomfbkpniblgaaGreatDoor

namespace Go.Proofs.YtmomfbkpniblgaaGreatDoor
open Go.RowKit
set_option linter.unusedVariables false

theorem div_lt32 {x : Nat} (hx : x < 4294967296) (c : Nat) : x / 2 ^ c < 4294967296 := Nat.lt_of_le_of_lt (Nat.div_le_self _ _) hx
theorem mixS_lt {x : Nat} (hx : x < 4294967296) (a b c : Nat) : mixS x a b c < 4294967296 := xor32_lt (xor32_lt (rotl32_lt hx) (rotl32_lt hx)) (div_lt32 hx c)
theorem mixR_lt {x : Nat} (hx : x < 4294967296) (a b c : Nat) : mixR x a b c < 4294967296 := xor32_lt (xor32_lt (rotl32_lt hx) (rotl32_lt hx)) (rotl32_lt hx)

set_option maxHeartbeats 1000000 in
theorem code_mixed_down (w : World) (x : Nat) (hx : x < 4294967296) (A B : Int) (sa sb c : Nat) (hA : bits .and .u64 (IntKind.u64.wrap (-A)) 31 = (sa : Int)) (hB : bits .and .u64 (IntKind.u64.wrap (-B)) 31 = (sb : Int))
    (a1 : 0 < sa) (a2 : sa < 32) (b1 : 0 < sb) (b2 : sb < 32) (c1 : 0 < c) (c2 : c < 32) (hC : bits .and .u64 (IntKind.u64.wrap (c : Int)) 31 = (c : Int)) (A1 : -64 ≤ A) (A2 : A ≤ 64) (B1 : -64 ≤ B) (B2 : B ≤ 64) :
    Calls Tryz.prog 284 #[.int .u32 (x : Int), .int .i64 A, .int .i64 B, .int .i64 (c : Int)] w fun e w' => e = .returned (.int .u32 (((rotl32 x sa ^^^ rotl32 x sb) ^^^ x / 2 ^ c : Nat) : Int)) ∧ w = w' := by
  have RC : ∀ W : World, Calls Tryz.prog 283 #[.int .u32 (x : Int), .int .i64 (c : Int)] W fun e w' => e = .returned (.int .u32 (rotl32 x c : Nat)) ∧ W = w' := fun W => rot32_any x c _ W hx hC c1 c2
  have RA : ∀ W : World, Calls Tryz.prog 283 #[.int .u32 (x : Int), .int .i64 (-A)] W fun e w' => e = .returned (.int .u32 (rotl32 x sa : Nat)) ∧ W = w' := fun W => rot32_any x sa _ W hx hA a1 a2
  have RB : ∀ W : World, Calls Tryz.prog 283 #[.int .u32 (x : Int), .int .i64 (-B)] W fun e w' => e = .returned (.int .u32 (rotl32 x sb : Nat)) ∧ W = w' := fun W => rot32_any x sb _ W hx hB b1 b2
  have l1 := rotl32_lt (s := sa) hx
  have l2 := rotl32_lt (s := sb) hx
  have l3 := div_lt32 hx c
  have hpos : decide ((0 : Int) < (c : Int)) = true := by simp; omega
  have hc0 : (0 : Int) ≤ (c : Int) := by omega
  have hc9 : (c : Int) < 32 := by omega
  clear hA hB hC
  go_enter Tryz.func284, Tryz.ntmps284
  go_wp2_with fail
  (with_reducible refine (RC _).mono ?_)
  rintro e w1 ⟨rfl, rfl⟩
  go_wp2_with fail
  (with_reducible refine (RA _).mono ?_)
  rintro e w1 ⟨rfl, rfl⟩
  go_wp2_with fail
  (with_reducible refine (RB _).mono ?_)
  rintro e w1 ⟨rfl, rfl⟩
  go_wp2_with fail
  go_ret
  refine ⟨ret_int ?_, rfl⟩
  rw [u32_xor_nat _ _ l1 l2, show ((x : Int) / 2 ^ c) = ((x / 2 ^ c : Nat) : Int) from by simp, u32_xor_nat _ _ (xor32_lt l1 l2) l3]

set_option maxHeartbeats 1000000 in
theorem code_mixed_turn (w : World) (x : Nat) (hx : x < 4294967296) (A B C : Int) (sa sb sc : Nat) (hA : bits .and .u64 (IntKind.u64.wrap (-A)) 31 = (sa : Int)) (hB : bits .and .u64 (IntKind.u64.wrap (-B)) 31 = (sb : Int)) (hC : bits .and .u64 (IntKind.u64.wrap C) 31 = (sc : Int))
    (a1 : 0 < sa) (a2 : sa < 32) (b1 : 0 < sb) (b2 : sb < 32) (c1 : 0 < sc) (c2 : sc < 32) (A1 : -64 ≤ A) (A2 : A ≤ 64) (B1 : -64 ≤ B) (B2 : B ≤ 64) (C1 : C < 0) :
    Calls Tryz.prog 284 #[.int .u32 (x : Int), .int .i64 A, .int .i64 B, .int .i64 C] w fun e w' => e = .returned (.int .u32 (((rotl32 x sa ^^^ rotl32 x sb) ^^^ rotl32 x sc : Nat) : Int)) ∧ w = w' := by
  have RC : ∀ W : World, Calls Tryz.prog 283 #[.int .u32 (x : Int), .int .i64 C] W fun e w' => e = .returned (.int .u32 (rotl32 x sc : Nat)) ∧ W = w' := fun W => rot32_any x sc _ W hx hC c1 c2
  have RA : ∀ W : World, Calls Tryz.prog 283 #[.int .u32 (x : Int), .int .i64 (-A)] W fun e w' => e = .returned (.int .u32 (rotl32 x sa : Nat)) ∧ W = w' := fun W => rot32_any x sa _ W hx hA a1 a2
  have RB : ∀ W : World, Calls Tryz.prog 283 #[.int .u32 (x : Int), .int .i64 (-B)] W fun e w' => e = .returned (.int .u32 (rotl32 x sb : Nat)) ∧ W = w' := fun W => rot32_any x sb _ W hx hB b1 b2
  have l1 := rotl32_lt (s := sa) hx
  have l2 := rotl32_lt (s := sb) hx
  have l3 := rotl32_lt (s := sc) hx
  have hpos : decide ((0 : Int) < C) = false := by simp; omega
  clear hA hB hC
  go_enter Tryz.func284, Tryz.ntmps284
  go_wp2_with fail
  (with_reducible refine (RC _).mono ?_)
  rintro e w1 ⟨rfl, rfl⟩
  go_wp2_with fail
  (with_reducible refine (RA _).mono ?_)
  rintro e w1 ⟨rfl, rfl⟩
  go_wp2_with fail
  (with_reducible refine (RB _).mono ?_)
  rintro e w1 ⟨rfl, rfl⟩
  go_wp2_with fail
  go_ret
  refine ⟨ret_int ?_, rfl⟩
  rw [u32_xor_nat _ _ l1 l2, u32_xor_nat _ _ (xor32_lt l1 l2) l3]

def Said32 (n : Nat) (w : World) (e : Ending) (w' : World) : Prop := e = .returned (.int .u32 (n : Int)) ∧ w = w'
theorem mix_s0 (w : World) (x : Nat) (hx : x < 4294967296) : Calls Tryz.prog 284 #[.int .u32 (x : Int), .int .i64 7, .int .i64 18, .int .i64 3] w (Said32 (mixS x 7 18 3) w) :=
  code_mixed_down w x hx 7 18 25 14 3 (by kernel_rfl) (by kernel_rfl) (by omega) (by omega) (by omega) (by omega) (by omega) (by omega) (by kernel_rfl) (by omega) (by omega) (by omega) (by omega)
theorem mix_s1 (w : World) (x : Nat) (hx : x < 4294967296) : Calls Tryz.prog 284 #[.int .u32 (x : Int), .int .i64 17, .int .i64 19, .int .i64 10] w (Said32 (mixS x 17 19 10) w) :=
  code_mixed_down w x hx 17 19 15 13 10 (by kernel_rfl) (by kernel_rfl) (by omega) (by omega) (by omega) (by omega) (by omega) (by omega) (by kernel_rfl) (by omega) (by omega) (by omega) (by omega)
theorem mix_r1 (w : World) (x : Nat) (hx : x < 4294967296) : Calls Tryz.prog 284 #[.int .u32 (x : Int), .int .i64 6, .int .i64 11, .int .i64 (-25)] w (Said32 (mixR x 6 11 25) w) :=
  code_mixed_turn w x hx 6 11 (-25) 26 21 7 (by kernel_rfl) (by kernel_rfl) (by kernel_rfl) (by omega) (by omega) (by omega) (by omega) (by omega) (by omega) (by omega) (by omega) (by omega) (by omega) (by omega)
theorem mix_r2 (w : World) (x : Nat) (hx : x < 4294967296) : Calls Tryz.prog 284 #[.int .u32 (x : Int), .int .i64 2, .int .i64 13, .int .i64 (-22)] w (Said32 (mixR x 2 13 22) w) :=
  code_mixed_turn w x hx 2 13 (-22) 30 19 10 (by kernel_rfl) (by kernel_rfl) (by kernel_rfl) (by omega) (by omega) (by omega) (by omega) (by omega) (by omega) (by omega) (by omega) (by omega) (by omega) (by omega)

end Go.Proofs.YtmomfbkpniblgaaGreatDoor

namespace Go.Proofs.YtmomfbkpniblgaaGreatDoor
open Go.RowKit
set_option linter.unusedVariables false

def c32 (n : Nat) : Value := .int .u32 (n : Int)
def A32 (l : List Nat) : Value := .agg (l.map c32).toArray
def HB (w : World) (B : Nat) (t : TypeId) (l : List Nat) : Prop := Blk w B t (l.map c32)
theorem HB.cell {w : World} {B : Nat} {t : TypeId} {l : List Nat} (h : HB w B t l) (i : Nat) (hi : i < l.length) : w.cell? ⟨B, i, none⟩ = some (.int .u32 (l[i] : Nat)) := by
  rw [Blk.cell h, List.getElem?_map, List.getElem?_eq_getElem hi]; rfl
theorem HB.set {w : World} {B : Nat} {t : TypeId} {l : List Nat} (h : HB w B t l) (i n : Nat) : HB (w.setCell ⟨B, i, none⟩ (.int .u32 (n : Int))) B t (l.set i n) := by
  have := Blk.set h i (.int .u32 (n : Int))
  unfold HB
  rw [List.map_set]
  exact this
def Small32 (l : List Nat) : Prop := ∀ x ∈ l, x < 4294967296

theorem info_u32 : (Tryz.prog.info? 33).map (·.size) = some 1 := by kernel_rfl
def kCells : List Value := [.int .u32 1116352408, .int .u32 1899447441, .int .u32 3049323471, .int .u32 3921009573, .int .u32 961987163, .int .u32 1508970993, .int .u32 2453635748, .int .u32 2870763221, .int .u32 3624381080, .int .u32 310598401, .int .u32 607225278, .int .u32 1426881987, .int .u32 1925078388, .int .u32 2162078206, .int .u32 2614888103, .int .u32 3248222580, .int .u32 3835390401, .int .u32 4022224774, .int .u32 264347078, .int .u32 604807628, .int .u32 770255983, .int .u32 1249150122, .int .u32 1555081692, .int .u32 1996064986, .int .u32 2554220882, .int .u32 2821834349, .int .u32 2952996808, .int .u32 3210313671, .int .u32 3336571891, .int .u32 3584528711, .int .u32 113926993, .int .u32 338241895, .int .u32 666307205, .int .u32 773529912, .int .u32 1294757372, .int .u32 1396182291, .int .u32 1695183700, .int .u32 1986661051, .int .u32 2177026350, .int .u32 2456956037, .int .u32 2730485921, .int .u32 2820302411, .int .u32 3259730800, .int .u32 3345764771, .int .u32 3516065817, .int .u32 3600352804, .int .u32 4094571909, .int .u32 275423344, .int .u32 430227734, .int .u32 506948616, .int .u32 659060556, .int .u32 883997877, .int .u32 958139571, .int .u32 1322822218, .int .u32 1537002063, .int .u32 1747873779, .int .u32 1955562222, .int .u32 2024104815, .int .u32 2227730452, .int .u32 2361852424, .int .u32 2428436474, .int .u32 2756734187, .int .u32 3204031479, .int .u32 3329325298]
theorem kCells_eq : shaK.map c32 = kCells := by simp only [shaK, c32, kCells, List.map_cons, List.map_nil, Int.cast_ofNat_Int]
theorem kCells_one : kCells.toArray.all (·.oneCell') = true := by kernel_rfl
theorem infoK : (Tryz.prog.info? 372).map (·.size) = some kCells.length := by kernel_rfl
theorem infoK2 : (Tryz.prog.info? 372).map (·.size) = some kCells.toArray.size := by kernel_rfl
def zCells : List Value := List.replicate 64 (.int .u32 0)
set_option maxRecDepth 20000 in
set_option maxHeartbeats 2000000 in
theorem code_constants (w : World) : Calls Tryz.prog 285 #[] w (Grown (A32 shaK) w) := by
  obtain ⟨x, hx⟩ : ∃ x, x = w.alloc (.cells #[.int .u32 0, .int .u32 0, .int .u32 0, .int .u32 0, .int .u32 0, .int .u32 0, .int .u32 0, .int .u32 0, .int .u32 0, .int .u32 0, .int .u32 0, .int .u32 0, .int .u32 0, .int .u32 0, .int .u32 0, .int .u32 0, .int .u32 0, .int .u32 0, .int .u32 0, .int .u32 0, .int .u32 0, .int .u32 0, .int .u32 0, .int .u32 0, .int .u32 0, .int .u32 0, .int .u32 0, .int .u32 0, .int .u32 0, .int .u32 0, .int .u32 0, .int .u32 0, .int .u32 0, .int .u32 0, .int .u32 0, .int .u32 0, .int .u32 0, .int .u32 0, .int .u32 0, .int .u32 0, .int .u32 0, .int .u32 0, .int .u32 0, .int .u32 0, .int .u32 0, .int .u32 0, .int .u32 0, .int .u32 0, .int .u32 0, .int .u32 0, .int .u32 0, .int .u32 0, .int .u32 0, .int .u32 0, .int .u32 0, .int .u32 0, .int .u32 0, .int .u32 0, .int .u32 0, .int .u32 0, .int .u32 0, .int .u32 0, .int .u32 0, .int .u32 0] 372) := ⟨_, rfl⟩
  have hb : Blk x w.heap.size 372 zCells := by rw [hx]; exact obj_new _ _
  have hth : x.there w.heap.size 0 kCells.toArray.size := hb.there _ (by kernel_rfl)
  have hW := hb.store kCells (by kernel_rfl)
  have he : A32 shaK = .agg kCells.toArray := by unfold A32; rw [kCells_eq]
  have hgW : w.grownBy (x.setCells w.heap.size 0 kCells.toArray.toList) none := grow_setCells_new (by rw [hx]; exact grow_alloc (grow_refl w none) _) _ (Nat.le_refl _) _ _
  rw [he]
  have hone := kCells_one
  have hi1 := infoK
  have hi2 := infoK2
  obtain ⟨L, hL⟩ : ∃ L, L = kCells := ⟨_, rfl⟩
  rw [← hL] at hth hW hgW hone hi1 hi2 ⊢
  have HL := Lib.hid hL
  have HW := Lib.hid hW
  have HG := Lib.hid hgW
  have HX := Lib.hid hx
  have HT := Lib.hid hth
  have HO := Lib.hid hone
  have HI1 := Lib.hid hi1
  have HI2 := Lib.hid hi2
  clear hb he hW hgW hx hth hL hone hi1 hi2
  go_enter Tryz.func285, Tryz.ntmps285
  go_upto_region 1 with (fail)
  rw [← HX.out]
  refine wp_region_lit ?_
  refine Go.Great.wpList_readTo rfl _ rfl (.agg L.toArray) ?_ ?_
  · rw [HL.out]
    kernel_rfl
  refine wpList_store_mid rfl 372 _ _ rfl w.heap.size 0 L.toArray rfl rfl HT.out HI2.out HO.out ?_
  refine wpList_nil ?_
  go_wp2_with fail
  refine bodyPost_ret (v := .agg L.toArray) (results_row Tryz.results285 _ _ w.heap.size rfl L _ HW.out Tryz.underlying372 rfl HI1.out) rfl ?_
  exact ⟨rfl, HG.out⟩

end Go.Proofs.YtmomfbkpniblgaaGreatDoor

namespace Go.Proofs.YtmomfbkpniblgaaGreatDoor
open Go.RowKit
set_option linter.unusedVariables false

def bro (w : World) (base : Nat) (v : Value) (l : List UInt8) : Prop :=
  ∃ g cap, v = .slice (some ⟨g, 0, none⟩) l.length cap ∧ base ≤ g ∧ g < w.heap.size ∧ l.length ≤ cap ∧ cap ≤ maxLen ∧ Bys w g l ∧
    ∀ i, i < cap → (w.cell? ⟨g, i, none⟩).isSome = true ∧ w.frozen? ⟨g, i, none⟩ = false

theorem add_off (g i : Nat) : (⟨g, 0, none⟩ : Addr).add i = ⟨g, i, none⟩ := by unfold Addr.add; split <;> simp_all

theorem brow_bro {w : World} {base base' : Nat} {v : Value} {l : List UInt8} (h : brow w base' v l) (hb : base ≤ base') (hl : l ≠ []) : bro w base v l := by
  have h0 := h
  unfold brow at h
  rcases h.2 with ⟨_, hn⟩ | ⟨g, cap, cur, hv, hbg, hg, hnc, hcm, hcs, htake⟩
  · exact absurd (List.eq_nil_of_length_eq_zero hn) hl
  · subst hv
    refine ⟨g, cap, rfl, by omega, lt_of_obj hg, hnc, hcm, fun i hi => ⟨?_, obj_frozen hg i⟩, fun i hi => ⟨?_, obj_frozen hg i⟩⟩
    · have e1 : (l.map bcell)[i]? = some (bcell l[i]) := by simp [hi]
      have e2 := h.cells (g := g) rfl i _ e1
      rw [add_off] at e2
      exact e2
    · rw [obj_cell hg]
      have : i < cur.size := by omega
      simp [this]

theorem bro.kept {w w' : World} {base : Nat} {v : Value} {l : List UInt8} {r : Option Nat} (h : bro w base v l) (g : w.grownBy w' r) (hr : v.ownBlock ≠ r) : bro w' base v l := by
  obtain ⟨b, cap, hv, h1, h2, h3, h4, h5, h6⟩ := h
  have hb : some b ≠ r := by subst hv; exact hr
  refine ⟨b, cap, hv, h1, Nat.lt_of_lt_of_le h2 g.size, h3, h4, h5.kept h2 g hb, fun i hi => ?_⟩
  have e := g.block b h2 hb
  rw [World.cell?_of_block (a := ⟨b, i, none⟩) e, World.frozen?_of_block (a := ⟨b, i, none⟩) e]
  exact h6 i hi

theorem bro.drew {w : World} {base : Nat} {v : Value} {l : List UInt8} (h : bro w base v l) : bro w.drew base v l := h
theorem bro.alloc {w : World} {base : Nat} {v : Value} {l : List UInt8} (h : bro w base v l) (o : Obj) : bro (w.alloc o) base v l :=
  h.kept (r := none) (World.grownBy_alloc _ _ _) (by obtain ⟨b, cap, hv, _⟩ := h; subst hv; simp [Value.ownBlock])
theorem bro.mono {w : World} {base base' : Nat} {v : Value} {l : List UInt8} (h : bro w base' v l) (hb : base ≤ base') : bro w base v l := by
  obtain ⟨b, cap, hv, h1, h2⟩ := h
  exact ⟨b, cap, hv, by omega, h2⟩
theorem bro.own {w : World} {base : Nat} {v : Value} {l : List UInt8} (h : bro w base v l) : ∃ b, v.ownBlock = some b ∧ base ≤ b ∧ b < w.heap.size := by
  obtain ⟨b, cap, hv, h1, h2, _⟩ := h
  exact ⟨b, by rw [hv]; rfl, h1, h2⟩

theorem bro_append2 {w : World} {base : Nat} {v : Value} {l cs : List UInt8} (h : bro w base v l) (B c : Nat) (hB : ∀ j (hj : j < cs.length), w.cell? ⟨B, j, none⟩ = some (bcell cs[j])) (hroom : l.length + cs.length ≤ 140737488355328) (hbase : base ≤ w.heap.size) :
    ∃ v' w', (Builtin.append_ #[83, 83] 83 #[v, .slice (some ⟨B, 0, none⟩) cs.length c]).run Tryz.prog w = .ok v' w' ∧ bro w' base v' (l ++ cs) ∧ w.grownBy w' v.ownBlock ∧ (v'.ownBlock = v.ownBlock ∨ bro w' w.heap.size v' (l ++ cs)) := by
  obtain ⟨i0, hi, hz0, hz1, hz2⟩ := info_parts info_u8
  obtain ⟨g, cap, hv, h1, h2, h3, h4, h5, h6⟩ := h
  subst hv
  have hnews : ∀ (j : Nat) u, (cs.map bcell)[j]? = some u → w.cell? ((⟨B, 0, none⟩ : Addr).add j) = some u := by
    intro j u hu
    rw [add_off]
    by_cases hj : j < cs.length
    · rw [hB j hj]
      simp [hj] at hu
      rw [hu]
    · rw [List.getElem?_eq_none (by simpa using hj)] at hu
      cases hu
  have hone : ∀ u ∈ cs.map bcell, u.oneCell' = true := by
    intro u hu
    obtain ⟨b, _, rfl⟩ := List.mem_map.1 hu
    rfl
  by_cases hfit : l.length + cs.length ≤ cap
  · have hr := run_append_room_cells (P := Tryz.prog) w 83 83 5 i0 Tryz.underlying83 hi g 0 l.length cap ⟨B, 0, none⟩ cs.length c (cs.map bcell) (by simp [hz1]) hnews hone hfit
      (fun j hj => by rw [hz1, Nat.zero_add, Nat.mul_one]; exact (h6 _ (by simp at hj; omega)).1) (fun j hj => by rw [hz1, Nat.zero_add, Nat.mul_one]; exact (h6 _ (by simp at hj; omega)).2)
    rw [hz1, Nat.zero_add, Nat.mul_one] at hr
    refine ⟨_, _, hr, ⟨g, cap, by rw [List.length_append], h1, ?_, by rw [List.length_append]; exact hfit, h4, fun i hi => ⟨?_, ?_⟩, fun i hi => ⟨?_, ?_⟩⟩, grow_setCells g _ _ _ _ (grow_refl w _), Or.inl rfl⟩
    · exact Nat.lt_of_lt_of_le h2 (grow_setCells g (cs.map bcell) l.length w w (grow_refl w _)).size
    · by_cases q : i < l.length
      · rw [World.cell?_setCells_out g _ _ _ _ (fun _ _ => Or.inl q), (h5 i q).1, List.getElem_append_left q]
      · have hc := World.cell?_setCells_in g (cs.map bcell) l.length w (fun j hj => (h6 _ (by simp at hj; omega)).1) (i - l.length) (by rw [List.length_append] at hi; simp; omega)
        rw [show l.length + (i - l.length) = i from by omega] at hc
        rw [hc, List.getElem_append_right (by omega)]
        simp [bcell]
    · rw [World.frozen?_setCells]
      exact (h6 i (by rw [List.length_append] at hi; omega)).2
    · by_cases q : i < l.length ∨ l.length + cs.length ≤ i
      · rw [World.cell?_setCells_out g _ _ _ _ (fun _ _ => by simpa using q)]
        exact (h6 i hi).1
      · have hc := World.cell?_setCells_in g (cs.map bcell) l.length w (fun j hj => (h6 _ (by simp at hj; omega)).1) (i - l.length) (by simp; omega)
        rw [show l.length + (i - l.length) = i from by omega] at hc
        rw [hc]
        rfl
    · rw [World.frozen?_setCells]
      exact (h6 i hi).2
  · have holds : ∀ (j : Nat) u, (l.map bcell)[j]? = some u → w.cell? ((⟨g, 0, none⟩ : Addr).add j) = some u := by
      intro j u hu
      rw [add_off]
      by_cases hj : j < l.length
      · rw [h5.cell j hj]
        simp [hj, bcell] at hu
        rw [hu]
      · rw [List.getElem?_eq_none (by simpa using hj)] at hu
        cases hu
    obtain ⟨v', w', hr, hown, hg⟩ := run_append_arg_grows (P := Tryz.prog) w 83 83 5 i0 (.int .u8 0) 1 1 Tryz.underlying83 hi hz0 hz1 hz2 rfl (by omega) ⟨g, 0, none⟩ l.length cap (l.map bcell) (by simp) holds ⟨B, 0, none⟩ cs.length c (cs.map bcell) (by simp) hnews (by omega) (by unfold maxLen; omega) (by omega)
    have hb : ∀ bs, bs ≤ w.heap.size → bro w' bs v' (l ++ cs) := fun bs hbs => by
      refine brow_bro (base' := w.heap.size) ?_ hbs (by intro e; have : (l ++ cs).length = 0 := by rw [e]; rfl
                                                        rw [List.length_append] at this; omega)
      unfold brow
      rw [List.length_append, List.map_append]
      exact hown
    exact ⟨v', w', hr, hb base hbase, grow_none hg, Or.inr (hb _ (Nat.le_refl _))⟩
theorem bro_append {w : World} {base : Nat} {v : Value} {l cs : List UInt8} (h : bro w base v l) (B c : Nat) (hB : ∀ j (hj : j < cs.length), w.cell? ⟨B, j, none⟩ = some (bcell cs[j])) (hroom : l.length + cs.length ≤ 140737488355328) (hbase : base ≤ w.heap.size) :
    ∃ v' w', (Builtin.append_ #[83, 83] 83 #[v, .slice (some ⟨B, 0, none⟩) cs.length c]).run Tryz.prog w = .ok v' w' ∧ bro w' base v' (l ++ cs) ∧ w.grownBy w' v.ownBlock := by
  obtain ⟨v', w', h1, h2, h3, _⟩ := bro_append2 h B c hB hroom hbase
  exact ⟨v', w', h1, h2, h3⟩

theorem bro_app2 {w : World} {base : Nat} {v : Value} {l : List UInt8} (c : UInt8) (h : bro w base v l) (hroom : l.length + 1 ≤ 140737488355328) (hbase : base ≤ w.heap.size) :
    ∃ v' w', (Builtin.append_ #[83, 83] 83 #[v, .slice (some ⟨w.heap.size, 0, none⟩) 1 1]).run Tryz.prog (w.alloc (.cells #[.int .u8 (c.toNat : Int)] 5)) = .ok v' w' ∧ bro w' base v' (l ++ [c]) ∧ w.grownBy w' v.ownBlock ∧ (v'.ownBlock = v.ownBlock ∨ bro w' w.heap.size v' (l ++ [c])) := by
  obtain ⟨v', w', hr, h1, h2, h3⟩ := bro_append2 (cs := [c]) (h.alloc (.cells #[.int .u8 (c.toNat : Int)] 5)) w.heap.size 1 (fun j hj => by
    obtain rfl : j = 0 := by simp at hj; omega
    rw [obj_cell (obj_new w _)]
    rfl) hroom (by simp; omega)
  exact ⟨v', w', hr, h1, grow_trans (World.grownBy_alloc _ _ _) h2, h3.imp id (fun k => k.mono (by simp))⟩

/-- One byte that the walk has laid in a new block. -/
theorem bro_app1 {w : World} {base : Nat} {v : Value} {l : List UInt8} (c : UInt8) (h : bro w base v l) (hroom : l.length + 1 ≤ 140737488355328) (hbase : base ≤ w.heap.size) :
    ∃ v' w', (Builtin.append_ #[83, 83] 83 #[v, .slice (some ⟨w.heap.size, 0, none⟩) 1 1]).run Tryz.prog (w.alloc (.cells #[.int .u8 (c.toNat : Int)] 5)) = .ok v' w' ∧ bro w' base v' (l ++ [c]) ∧ w.grownBy w' v.ownBlock := by
  obtain ⟨v', w', hr, h1, h2⟩ := bro_append (cs := [c]) (h.alloc (.cells #[.int .u8 (c.toNat : Int)] 5)) w.heap.size 1 (fun j hj => by
    obtain rfl : j = 0 := by simp at hj; omega
    rw [obj_cell (obj_new w _)]
    rfl) hroom (by simp; omega)
  exact ⟨v', w', hr, h1, grow_trans (World.grownBy_alloc _ _ _) h2⟩

/-- An append whose run is known: at a plain region's list. -/
theorem append_run {w : World} {ops : Array Oper} {rest : List Oper} {o : Oper} {a : Act} {Q : Exit → Act → World → Prop} (hgd : o.guard = none) (s x : Operand) (v u v' : Value) (w' : World)
    (hr : (Builtin.append_ #[83, 83] 83 #[v, u]).run Tryz.prog w = .ok v' w')
    (ho : o.op = .call { callee := .builtin .append, args := #[s, x], argTypes := #[83, 83] }) (hty : o.type = 83) (hs : a.eval s = v) (hx : a.eval x = u)
    (h : wpList Tryz.prog ops Q rest (a.put o.dst v') w') : wpList Tryz.prog ops Q (o :: rest) a w := by
  refine wpList_plain hgd fun K hK => ?_
  unfold Oper.wp execOp
  simp only [ho, hty, resolve, invoke, builtin, Sem.run_bind, Sem.run_pure, Result.andThen_ok, List.map_toArray, List.map_cons, List.map_nil, hs, hx, hr]
  exact hK _ _ h

theorem conv_bro {w : World} {base : Nat} {v : Value} {l : List UInt8} (h : bro w base v l) : (convert 83 9 v).run Tryz.prog w = .ok (.string ⟨l.toArray⟩) w := by
  obtain ⟨b, cap, hv, _, _, _, _, h5, _⟩ := h
  rw [hv]
  exact conv_bys h5 cap

/-- '[]byte(s)' -/
theorem to_bro (w : World) (l : List UInt8) (hl : l.length ≤ maxLen) :
    ∃ v w', (convert 9 83 (.string ⟨l.toArray⟩)).run Tryz.prog w = .ok v w' ∧ bro w' w.heap.size v l ∧ w.grownBy w' none := by
  have h := run_bytes_of_string (P := Tryz.prog) w 9 83 5 ⟨l.toArray⟩ Tryz.underlying9 Tryz.underlying83 Tryz.underlying5
  have hsz : (ByteArray.mk l.toArray).size = l.length := by simp [ByteArray.size]
  rw [hsz] at h
  have hge := grownCap_ge w l.length 0 5
  have hle := grownCap_le_maxLen w l.length 0 5 hl
  generalize grownCap w l.length 0 5 = cap at *
  have hrow : (bytesRow ⟨l.toArray⟩ cap).size = cap := by
    unfold bytesRow
    simp [ByteArray.size]
    omega
  have hnew : ∀ o : Obj, (w.drew.alloc o).heap[w.heap.size]? = some o := fun o => obj_new w.drew o
  have hfr : ∀ i, i < cap → (w.drew.alloc (.cells (bytesRow ⟨l.toArray⟩ cap) 5 ((bytesRow ⟨l.toArray⟩ cap).size, (bytesRow ⟨l.toArray⟩ cap).size + 1))).frozen? ⟨w.heap.size, i, none⟩ = false := by
    intro i hi
    unfold World.frozen?
    simp only [hnew, Bool.and_eq_false_iff, decide_eq_false_iff_not]
    left
    omega
  refine ⟨_, _, h, ⟨w.heap.size, cap, rfl, Nat.le_refl _, by simp, hge, hle, fun i hi => ⟨?_, hfr i (by omega)⟩, fun i hi => ⟨?_, hfr i hi⟩⟩, grow_alloc (grow_drew (grow_refl _ _)) _⟩
  · unfold World.cell?
    simp only [hnew]
    unfold bytesRow
    rw [Array.getElem?_append_left (by simpa using hi)]
    simp [hi]
  · unfold World.cell?
    simp only [hnew]
    simp [hrow, hi]

end Go.Proofs.YtmomfbkpniblgaaGreatDoor

namespace Go.Proofs.YtmomfbkpniblgaaGreatDoor
open Go.RowKit
set_option linter.unusedVariables false

def OwnBro2 (w : World) (base : Nat) (x : Option Nat) (l : List UInt8) (e : Ending) (w' : World) : Prop := ∃ v', e = .returned v' ∧ bro w' base v' l ∧ w.grownBy w' x
/-- The row lies where it lay, or in a new block. -/
def Moved (w : World) (v v' : Value) : Prop := v'.ownBlock = v.ownBlock ∨ ∃ b, v'.ownBlock = some b ∧ w.heap.size ≤ b
theorem moved_grow {w a b : World} {v u : Value} (h : w.grownBy a v.ownBlock) (m : Moved w v u) (g : a.grownBy b u.ownBlock) : w.grownBy b v.ownBlock := by
  rcases m with e | ⟨k, e, hk⟩
  · rw [e] at g; exact grow_trans h g
  · rw [e] at g; exact grow_trans_new h g hk
theorem moved_more {w a b : World} {v u u' : Value} {l : List UInt8} (h : w.grownBy a v.ownBlock) (m : Moved w v u) (k : u'.ownBlock = u.ownBlock ∨ bro b a.heap.size u' l) : Moved w v u' := by
  rcases k with e | hb
  · unfold Moved
    rw [e]
    exact m
  · obtain ⟨g, e, h1, _⟩ := hb.own
    exact Or.inr ⟨g, e, Nat.le_trans h.size h1⟩

set_option maxHeartbeats 1000000 in
theorem bro_appendBig2 (w : World) (base : Nat) (v : Value) (l : List UInt8) (n k : Nat) (hown : bro w base v l) (hn : n < 18446744073709551616) (hk : k ≤ 8) (hl : l.length + 8 ≤ 140737488355328) (hb : base ≤ w.heap.size) :
    Calls Tryz.prog 70 #[v, .int .u64 n, .int .i64 k] w (OwnBro2 w base v.ownBlock (l ++ bigB n k)) := by
  go_enter Tryz.func70, Tryz.ntmps70
  go_wp2
  go_loopw [0, 9] (fun vb vi wr => ∃ j : Nat, j ≤ k ∧ vi = .int .i64 j ∧ Hid (bro wr base vb (l ++ (bigB n k).take j)) ∧ Hid (w.grownBy wr v.ownBlock) ∧ Hid (Moved w v vb)) (fun _ vi _ => k - (intOf vi).toNat)
  case atStart => exact ⟨0, by omega, rfl, Lib.hid (by rw [List.take_zero, List.append_nil]; exact hown), Lib.hid (grow_refl _ _), Lib.hid (Or.inl rfl)⟩
  case round =>
    obtain ⟨j, hj, rfl, hK, HB, HM⟩ := hrel
    clear hown
    have hlen := bigB_length n k
    have hbz := HB.out.size
    by_cases hlt : j < k
    · have hsn := bigB_snoc n k j hlt
      have lt : ((bigB n k).take j).length = j := by rw [List.length_take, hlen]; omega
      obtain ⟨g, cap, hv, k1, k2, k3, k4, h5, h6⟩ := id hK.out
      subst hv
      obtain ⟨v', w', hr, hb2, hg2, hm2⟩ := bro_app2 (UInt8.ofNat (n / 2 ^ (8 * (k - 1 - j)))) hK.out (by rw [List.length_append, lt]; omega) (by omega)
      have HMM := Lib.hid (moved_more HB.out HM.out hm2)
      rw [List.append_assoc, ← hsn] at hb2
      have HNX := Lib.hid (And.intro hb2 (moved_grow HB.out HM.out hg2))
      clear hsn hb2 hg2 hm2 h5 h6 hK HB HM k1 k2 k3 k4
      generalize (l ++ (bigB n k).take j).length = ln at *
      have e1 : 0 ≤ 8 * ((k : Int) - 1 - j) := by omega
      have e2 : 8 * ((k : Int) - 1 - j) ≤ 64 := by omega
      have hc : Value.int .u8 (((n / 2 ^ (8 * (k - 1 - j)) % 256 : Nat)) : Int) = .int .u8 ((UInt8.ofNat (n / 2 ^ (8 * (k - 1 - j)))).toNat : Int) := bcell_of _
      go_wp2_with (at_builtin; go_must (refine append_run rfl _ _ _ _ v' w' ?c1 rfl rfl rfl rfl ?_))
      case c1 =>
        rw [← hr]
        congr 2
      clear hr
      go_wp2_with fail
      go_roundw
      case rel => exact ⟨j + 1, by omega, by go_num, Lib.hid HNX.out.1, Lib.hid HNX.out.2, HMM⟩
      case measure => simp [intOf]; omega
    · obtain rfl : j = k := by omega
      have hfin : bro wr base u0 (l ++ bigB n j) := by
        have := hK.out
        rwa [List.take_of_length_le (by omega)] at this
      have HF := Lib.hid hfin
      clear hfin hK
      go_wp2
      go_ret
      exact ⟨_, rfl, HF.out, HB.out⟩

end Go.Proofs.YtmomfbkpniblgaaGreatDoor

namespace Go.Proofs.YtmomfbkpniblgaaGreatDoor
open Go.RowKit
set_option linter.unusedVariables false

/-- What is heard of the parts, by r. -/
def pacc (r : Nat) : Nat → Nat → List UInt8 → Nat
  | 0, a, _ => a
  | f + 1, a, t => if t = [] then a else pacc r f (pmul (a + leN (t.take 16 ++ [1])) r) (t.drop 16)

def polyR (key : List UInt8) : Nat := (leN (key.take 8) &&& 1152921487695413247) + 18446744073709551616 * (leN ((key.drop 8).take 8) &&& 1152921487695413244)
def polyN (key : List UInt8) : Nat := leN ((key.drop 16).take 8) + 18446744073709551616 * leN ((key.drop 24).take 8)
def polyA (key text : List UInt8) : Nat := pleast (pacc (polyR key) (text.length + 1) 0 text)
def tagL (key text : List UInt8) : List UInt8 := leB ((polyA key text + polyN key) % 18446744073709551616) 8 ++ leB ((polyA key text + polyN key) / 18446744073709551616 % 18446744073709551616) 8

theorem pacc_fuel (r : Nat) : ∀ (f g a : Nat) (t : List UInt8), t.length < f → t.length < g → pacc r f a t = pacc r g a t
  | 0, _, _, _, h, _ => by omega
  | _, 0, _, _, _, h => by omega
  | f + 1, g + 1, a, t, hf, hg => by
    unfold pacc
    by_cases h : t = []
    · rw [if_pos h, if_pos h]
    · rw [if_neg h, if_neg h]
      have hl : 0 < t.length := List.length_pos_iff.mpr h
      exact pacc_fuel r f g _ _ (by rw [List.length_drop]; omega) (by rw [List.length_drop]; omega)

theorem pacc_step (r a : Nat) (t : List UInt8) (h : 0 < t.length) : pacc r (t.length + 1) a t = pacc r ((t.drop 16).length + 1) (pmul (a + leN (t.take 16 ++ [1])) r) (t.drop 16) := by
  have hn : t ≠ [] := List.length_pos_iff.mp h
  conv => lhs; unfold pacc
  rw [if_neg hn]
  exact pacc_fuel r _ _ _ _ (by rw [List.length_drop]; omega) (by omega)

theorem pacc_nil (r a : Nat) : pacc r (([] : List UInt8).length + 1) a [] = a := by simp [pacc]

theorem leN_append : ∀ l r : List UInt8, leN (l ++ r) = leN l + 256 ^ l.length * leN r
  | [], r => by simp [leN]
  | c :: l, r => by
    have := leN_append l r
    simp only [List.cons_append, leN, this, List.length_cons, Nat.pow_succ]
    rw [Nat.mul_add, ← Nat.add_assoc, Nat.mul_comm (256 ^ l.length) 256, Nat.mul_assoc]

/-- A part of at most 17 bytes, by words. -/
theorem leN_words (p : List UInt8) : leN p = leN (p.take 8) + 18446744073709551616 * leN ((p.drop 8).take 8) + 340282366920938463463374607431768211456 * leN (p.drop 16) := by
  have h1 : p = p.take 8 ++ ((p.drop 8).take 8 ++ p.drop 16) := by
    have e1 := List.take_append_drop 8 p
    have e2 := List.take_append_drop 8 (p.drop 8)
    rw [List.drop_drop] at e2
    rw [e2, e1]
  by_cases q : 16 ≤ p.length
  · have l1 : (p.take 8).length = 8 := by rw [List.length_take]; omega
    have l2 : ((p.drop 8).take 8).length = 8 := by rw [List.length_take, List.length_drop]; omega
    conv => lhs; rw [h1]
    rw [leN_append, leN_append, l1, l2]
    omega
  · have l3 : p.drop 16 = [] := List.drop_of_length_le (by omega)
    rw [l3] at h1 ⊢
    rw [List.append_nil] at h1
    by_cases q8 : 8 ≤ p.length
    · have l1 : (p.take 8).length = 8 := by rw [List.length_take]; omega
      conv => lhs; rw [h1]
      rw [leN_append, l1]
      simp [leN]
    · have l4 : p.drop 8 = [] := List.drop_of_length_le (by omega)
      have l5 : p.take 8 = p := List.take_of_length_le (by omega)
      rw [l4, l5]
      simp [leN]

theorem ptag_num (f pt : List UInt8) (hpt : pt = f ++ [1]) (hf : f.length ≤ 16) :
    N3 (leN pt) = .agg #[.int .u64 (leN (pt.take 8) : Int), .int .u64 (leN ((pt.drop 8).take 8) : Int), .int .u64 ((if f.length = 16 then 1 else 0 : Nat) : Int)] := by
  have h0 : leN (pt.take 8) < 18446744073709551616 := leN_lt8 _ (by rw [List.length_take]; omega)
  have h1 : leN ((pt.drop 8).take 8) < 18446744073709551616 := leN_lt8 _ (by rw [List.length_take]; omega)
  have h2 : leN (pt.drop 16) = if f.length = 16 then 1 else 0 := by
    by_cases h : f.length = 16
    · rw [if_pos h, hpt, ← h, List.drop_left]
      rfl
    · rw [if_neg h, hpt, List.drop_of_length_le (by simp; omega)]
      rfl
  rw [leN_words pt, h2]
  exact N3_of _ _ _ h0 h1 (by split <;> omega)

theorem ptag_zero (f pt : List UInt8) (hpt : pt = f ++ [1]) (hf : f.length < 8) : leN ((pt.drop 8).take 8) = 0 := by
  rw [hpt, List.drop_of_length_le (by simp; omega)]
  rfl

theorem ptag_lt (f pt : List UInt8) (hpt : pt = f ++ [1]) (hf : f.length ≤ 16) : leN pt < 87112285931760246646623899502532662132736 := by
  have h := leN_lt pt
  have : 256 ^ pt.length ≤ 256 ^ 17 := Nat.pow_le_pow_right (by omega) (by rw [hpt]; simp; omega)
  exact Nat.lt_of_lt_of_le h this

end Go.Proofs.YtmomfbkpniblgaaGreatDoor

namespace Go.Proofs.YtmomfbkpniblgaaGreatDoor
open Go.RowKit
set_option linter.unusedVariables false
attribute [local go_sem ↓] Go.wp_at_zero Go.wp_at_succ

/-- A word in a cell. -/
def wcell (n : Nat) : Value := .int .u32 (n : Int)
/-- Sixteen words by value. -/
def A16 (l : List Nat) : Value := .agg (l.map wcell).toArray
/-- Block B holds these words. -/
def WB (w : World) (B : Nat) (l : List Nat) : Prop := w.heap[B]? = some (.cells (l.map wcell).toArray 335 (0, 0))
def Small (l : List Nat) : Prop := ∀ i, l.getD i 0 < 4294967296

/-- A quarter of a round on four places. -/
def qset (a b c d : Nat) (l : List Nat) : List Nat :=
  let q := qquarter (l.getD a 0, l.getD b 0, l.getD c 0, l.getD d 0)
  (((l.set a q.1).set b q.2.1).set c q.2.2.1).set d q.2.2.2

theorem WB.cell {w : World} {B : Nat} {l : List Nat} (h : WB w B l) (i : Nat) (hi : i < l.length) : w.cell? ⟨B, i, none⟩ = some (.int .u32 (l.getD i 0 : Nat)) := by
  rw [obj_cell h]
  simp [wcell, List.getD, List.getElem?_eq_getElem hi]

theorem WB.frozen {w : World} {B : Nat} {l : List Nat} (h : WB w B l) (i : Nat) : w.frozen? ⟨B, i, none⟩ = false := obj_frozen h i

theorem WB.set {w : World} {B : Nat} {l : List Nat} (h : WB w B l) (i n : Nat) : WB (w.setCell ⟨B, i, none⟩ (.int .u32 (n : Int))) B (l.set i n) := by
  unfold WB
  rw [obj_setCell h, List.map_set]
  simp [wcell]

theorem WB.kept {w w' : World} {B : Nat} {l : List Nat} {r : Option Nat} (h : WB w B l) (g : w.grownBy w' r) (hr : some B ≠ r) : WB w' B l := grow_obj g h hr

theorem grow_keep {w x : World} {p : Addr} {v : Value} (h : w.drew.grownBy x none) (hc : w.cell? p = some v) : x.cell? p = some v := h.cell (a := p) hc (by simp)

set_option maxRecDepth 20000 in
set_option maxHeartbeats 2000000 in
theorem code_stir1 (w : World) (B : Nat) (l : List Nat) (a b c d : Nat) (hB : WB w B l) (hl : l.length = 16) (hx : Small l) (ha : a < 16) (hb : b < 16) (hc : c < 16) (hd : d < 16) (hab : a ≠ b) (hac : a ≠ c) (had : a ≠ d) (hbc : b ≠ c) (hbd : b ≠ d) (hcd : c ≠ d) :
    Calls Tryz.prog 281 #[.int .i64 a, .int .i64 b, .int .i64 c, .int .i64 d, .pointer (some ⟨B, 0, none⟩)] w fun e w' => e = .returned (.tuple #[]) ∧ WB w' B (qset a b c d l) ∧ w.grownBy w' (some B) := by
  have ca := hB.cell a (by omega)
  have cb := hB.cell b (by omega)
  have cc := hB.cell c (by omega)
  have cd := hB.cell d (by omega)
  have xa := hx a
  have xb := hx b
  have xc := hx c
  have xd := hx d
  have HQ := Lib.hid (rfl : qset a b c d l = qset a b c d l)
  obtain ⟨ya, hya⟩ : ∃ y, y = l.getD a 0 := ⟨_, rfl⟩
  obtain ⟨yb, hyb⟩ : ∃ y, y = l.getD b 0 := ⟨_, rfl⟩
  obtain ⟨yc, hyc⟩ : ∃ y, y = l.getD c 0 := ⟨_, rfl⟩
  obtain ⟨yd, hyd⟩ : ∃ y, y = l.getD d 0 := ⟨_, rfl⟩
  have hq : qset a b c d l = (((l.set a (qquarter (ya, yb, yc, yd)).1).set b (qquarter (ya, yb, yc, yd)).2.1).set c (qquarter (ya, yb, yc, yd)).2.2.1).set d (qquarter (ya, yb, yc, yd)).2.2.2 := by
    rw [hya, hyb, hyc, hyd]; rfl
  rw [← hya] at ca xa
  rw [← hyb] at cb xb
  rw [← hyc] at cc xc
  rw [← hyd] at cd xd
  clear hya hyb hyc hyd HQ
  have A : ∀ W : World, Calls Tryz.prog 282 #[.int .u32 ya, .int .u32 yb, .int .u32 yc, .int .u32 yd] W fun e w' => e = .returned (R4 (qquarter (ya, yb, yc, yd))) ∧ W.grownBy w' none := fun W => code_quarter W ya yb yc yd xa xb xc xd
  generalize qquarter (ya, yb, yc, yd) = Z at *
  obtain ⟨za, zb, zc, zd⟩ := Z
  simp only at hq
  unfold R4 at A
  rw [hq]
  clear hq hx
  have Hl := Lib.hid hl
  clear hl
  have ia : (0 : Int) ≤ (a : Int) := by omega
  have ib : (0 : Int) ≤ (b : Int) := by omega
  have ic : (0 : Int) ≤ (c : Int) := by omega
  have id' : (0 : Int) ≤ (d : Int) := by omega
  have ja : (a : Int) < 16 := by omega
  have jb : (b : Int) < 16 := by omega
  have jc : (c : Int) < 16 := by omega
  have jd : (d : Int) < 16 := by omega
  go_enter Tryz.func281, Tryz.ntmps281
  go_wp2_with fail
  go_region_with (first
    | (go_at_call 282; (with_reducible refine (A _).mono ?_); rintro e x ⟨rfl, hg⟩; have hBx := (hB.kept (grow_drew (grow_refl w none)) (by simp)).kept hg (by simp); have fa := hBx.frozen a; have fb := hBx.frozen b; have fc := hBx.frozen c; have fd := hBx.frozen d; have ga := grow_keep hg ca; have gb := grow_keep hg cb; have gc := grow_keep hg cc; have gd := grow_keep hg cd))
  all_goals
    go_wp2_with fail
    go_end0
    refine ⟨rfl, ?_, ?_⟩
    · exact (((hBx.set a za).set b zb).set c zc).set d zd
    · exact grow_setCell (grow_setCell (grow_setCell (grow_setCell (grow_trans (grow_drew (grow_refl w _)) (grow_none hg)) _ _) _ _) _ _) _ _

end Go.Proofs.YtmomfbkpniblgaaGreatDoor

namespace Go.Proofs.YtmomfbkpniblgaaGreatDoor
open Go.RowKit
set_option linter.unusedVariables false

/-- The four columns, the first k of them; the diagonals likewise. -/
def colsK (l : List Nat) : Nat → List Nat
  | 0 => l
  | k + 1 => qset k (4 + k) (8 + k) (12 + k) (colsK l k)
def diagK (l : List Nat) : Nat → List Nat
  | 0 => l
  | k + 1 => qset k (4 + (k + 1) % 4) (8 + (k + 2) % 4) (12 + (k + 3) % 4) (diagK l k)
def roundsK (l : List Nat) : Nat → List Nat
  | 0 => l
  | k + 1 => diagK (colsK (roundsK l k) 4) 4
def stirred (l : List Nat) : List Nat := roundsK l 10

theorem getD_set_small {l : List Nat} (h : Small l) (i n : Nat) (hn : n < 4294967296) : Small (l.set i n) := by
  intro j
  have := h j
  rw [List.getD_eq_getElem?_getD] at this ⊢
  rw [List.getElem?_set]
  by_cases e : i = j
  · subst e
    by_cases q : i < l.length
    · simp [q, hn]
    · simp [q]
  · simp only [e, if_false]
    exact this

theorem qset_small {l : List Nat} (h : Small l) (a b c d : Nat) : Small (qset a b c d l) := by
  have ok : Ok4 (qquarter (l.getD a 0, l.getD b 0, l.getD c 0, l.getD d 0)) := by
    unfold qquarter
    exact qstep_ok _ _ _ (qstep_ok _ _ _ ⟨h a, h b, h c, h d⟩)
  unfold qset
  generalize qquarter (l.getD a 0, l.getD b 0, l.getD c 0, l.getD d 0) = q at *
  obtain ⟨x, y, z, t⟩ := q
  obtain ⟨h1, h2, h3, h4⟩ := ok
  exact getD_set_small (getD_set_small (getD_set_small (getD_set_small h _ _ h1) _ _ h2) _ _ h3) _ _ h4

theorem qset_length (a b c d : Nat) (l : List Nat) : (qset a b c d l).length = l.length := by simp [qset]

theorem colsK_ok {l : List Nat} (h : Small l) (hl : l.length = 16) (k : Nat) : Small (colsK l k) ∧ (colsK l k).length = 16 := by
  induction k with
  | zero => exact ⟨h, hl⟩
  | succ k ih => exact ⟨qset_small ih.1 _ _ _ _, by rw [colsK, qset_length]; exact ih.2⟩

theorem diagK_ok {l : List Nat} (h : Small l) (hl : l.length = 16) (k : Nat) : Small (diagK l k) ∧ (diagK l k).length = 16 := by
  induction k with
  | zero => exact ⟨h, hl⟩
  | succ k ih => exact ⟨qset_small ih.1 _ _ _ _, by rw [diagK, qset_length]; exact ih.2⟩

theorem roundsK_ok {l : List Nat} (h : Small l) (hl : l.length = 16) (k : Nat) : Small (roundsK l k) ∧ (roundsK l k).length = 16 := by
  induction k with
  | zero => exact ⟨h, hl⟩
  | succ k ih =>
    have c := colsK_ok ih.1 ih.2 4
    exact diagK_ok c.1 c.2 4

def zero16 : List Value := List.replicate 16 (.int .u32 0)

theorem info16 : (Tryz.prog.info? 335).map (·.size) = some 16 := by kernel_rfl

theorem wcells_mem (l : List Nat) : ∀ v ∈ l.map wcell, v.oneCell' = true := by
  intro v hv
  obtain ⟨n, _, rfl⟩ := List.mem_map.1 hv
  rfl

theorem wcells_one (l : List Nat) : (l.map wcell).toArray.all (·.oneCell') = true := by
  refine all_oneCell_toArray fun v hv => ?_
  obtain ⟨n, _, rfl⟩ := List.mem_map.1 hv
  rfl

set_option maxRecDepth 20000 in
set_option maxHeartbeats 2000000 in
theorem code_stirred (w : World) (l : List Nat) (hl : l.length = 16) (hx : Small l) :
    Calls Tryz.prog 255 #[A16 l] w fun e w' => e = .returned (A16 (stirred l)) ∧ w.grownBy w' none := by
  have HR := roundsK_ok hx hl
  obtain ⟨B, hBe⟩ : ∃ B, B = w.heap.size := ⟨_, rfl⟩
  obtain ⟨x, hxe⟩ : ∃ x, x = (w.alloc (.cells (l.map wcell).toArray 335)).alloc (.cells zero16.toArray 335) := ⟨_, rfl⟩
  have hBx : WB x B l := by rw [hxe, hBe]; exact obj_alloc (obj_new w _)
  have hB1 : Blk x (B + 1) 335 zero16 := by
    have := Blk.new (w.alloc (.cells (l.map wcell).toArray 335)) 335 zero16
    rw [show (w.alloc (.cells (l.map wcell).toArray 335)).heap.size = B + 1 from by rw [hBe]; simp] at this
    rw [hxe]
    exact this
  have hg0 : w.grownBy x none := by rw [hxe]; exact grow_alloc (grow_alloc (grow_refl w none) _) _
  have hBs : w.heap.size ≤ B := by omega
  have HXE := Lib.hid hxe
  have HBE := Lib.hid hBe
  have HL := Lib.hid hl
  have HZ := Lib.hid hB1
  have HG := Lib.hid hg0
  clear hx hxe hBe hl hB1 hg0
  unfold A16
  go_enter Tryz.func255, Tryz.ntmps255
  go_wp2_with fail
  rw [← HBE.out]
  have hX := HXE.out
  unfold zero16 at hX
  simp only [List.replicate] at hX
  rw [← hX]
  clear hX
  have hu := Tryz.underlying335
  go_loopw [7] (fun vr wr => ∃ r : Nat, r ≤ 10 ∧ vr = .int .i64 r ∧ WB wr B (roundsK l r) ∧ x.grownBy wr (some B)) (fun vr _ => 10 - (intOf vr).toNat)
  case atStart => exact ⟨0, by omega, rfl, hBx, grow_refl _ _⟩
  case round =>
    clear hBx hu
    obtain ⟨r, hr, rfl, hB, hg⟩ := hrel
    by_cases hlt : r < 10
    · have hd : decide ((r : Int) < 10) = true := by simp; omega
      have HRr := Lib.hid (HR r)
      clear HR
      go_wp2_with fail
      go_loopw [9] (fun vk wr => ∃ k : Nat, k ≤ 4 ∧ vk = .int .i64 k ∧ WB wr B (colsK (roundsK l r) k) ∧ x.grownBy wr (some B)) (fun vk _ => 4 - (intOf vk).toNat)
      case atStart => exact ⟨0, by omega, rfl, hB, hg⟩
      case round =>
        clear hB hg
        obtain ⟨k, hk, rfl, hB, hg⟩ := hrel
        by_cases hlk : k < 4
        · have hok := colsK_ok HRr.out.1 HRr.out.2 k
          go_wp2_with fail
          refine (code_stir1 _ B (colsK (roundsK l r) k) k (4 + k) (8 + k) (12 + k) hB hok.2 hok.1 (by omega) (by omega) (by omega) (by omega) (by omega) (by omega) (by omega) (by omega) (by omega) (by omega)).mono ?_
          rintro e w1 ⟨rfl, hB1, hg1⟩
          go_wp2_with fail
          go_roundw
          case rel => exact ⟨k + 1, by omega, by go_num, hB1, grow_trans hg hg1⟩
          case measure => simp [intOf]; omega
        · obtain rfl : k = 4 := by omega
          rw [show Value.int .i64 ((4 : Nat) : Int) = Value.int .i64 4 from rfl]
          have HC := Lib.hid (colsK_ok HRr.out.1 HRr.out.2 4)
          go_wp2_with fail
          go_loopw [22] (fun vk wr => ∃ k : Nat, k ≤ 4 ∧ vk = .int .i64 k ∧ WB wr B (diagK (colsK (roundsK l r) 4) k) ∧ x.grownBy wr (some B)) (fun vk _ => 4 - (intOf vk).toNat)
          case atStart => exact ⟨0, by omega, rfl, hB, hg⟩
          case round =>
            clear hB hg
            obtain ⟨k, hk, rfl, hB, hg⟩ := hrel
            by_cases hlk : k < 4
            · have hok := diagK_ok HC.out.1 HC.out.2 k
              go_wp2_with fail
              refine (code_stir1 _ B (diagK (colsK (roundsK l r) 4) k) k (4 + (k + 1) % 4) (8 + (k + 2) % 4) (12 + (k + 3) % 4) hB hok.2 hok.1 (by omega) (by omega) (by omega) (by omega) (by omega) (by omega) (by omega) (by omega) (by omega) (by omega)).mono ?_
              rintro e w1 ⟨rfl, hB1, hg1⟩
              go_wp2_with fail
              go_roundw
              case rel => exact ⟨k + 1, by omega, by go_num, hB1, grow_trans hg hg1⟩
              case measure => simp [intOf]; omega
            · obtain rfl : k = 4 := by omega
              go_wp2_with fail
              go_roundw
              case rel => exact ⟨r + 1, by omega, by go_num, hB, hg⟩
              case measure => simp [intOf]; omega
    · obtain rfl : r = 10 := by omega
      have hle := (HR 10).2
      clear HR
      obtain ⟨L, hL⟩ : ∃ L, L = roundsK l 10 := ⟨_, rfl⟩
      have HLL := Lib.hid (show Value.agg ((stirred l).map wcell).toArray = .agg (L.map wcell).toArray from by rw [hL]; rfl)
      rw [← hL] at hle hB
      clear hL
      have hB' : Blk wr B 335 ((L).map wcell) := hB
      have hZ := (HZ.out).kept hg (by simp)
      have hi2 : (Tryz.prog.info? 335).map (·.size) = some ((L).map wcell).length := by rw [List.length_map, hle]; exact info16
      have hi3 : (Tryz.prog.info? 335).map (·.size) = some ((L).map wcell).toArray.size := by rw [List.size_toArray]; exact hi2
      have hth : wr.there (B + 1) 0 ((L).map wcell).toArray.size := hZ.there _ (by simp [zero16, hle])
      have HI := Lib.hid hi2
      have HI3 := Lib.hid hi3
      have HT := Lib.hid hth
      have HRg := Lib.hid hB'.range
      clear hi2 hi3 hth hZ
      go_upto_region 15 with (fail)
      refine wp_region_lit ?_
      refine wpList_load_mid rfl 335 _ rfl B 0 rfl ((L).map wcell) _ HRg.out Tryz.underlying335 rfl HI.out ?_
      refine wpList_store_mid rfl 335 _ _ rfl (B + 1) 0 ((L).map wcell).toArray rfl rfl HT.out HI3.out (wcells_one _) ?_
      refine wpList_nil ?_
      have hW := ((HZ.out).kept hg (by simp)).store ((L).map wcell) (by simpa [zero16] using hle)
      have hgW : w.grownBy (wr.setCells (B + 1) 0 ((L).map wcell).toArray.toList) none := grow_setCells_new (grow_trans_new HG.out hg hBs) (B + 1) (by omega) _ _
      go_wp2_with fail
      refine bodyPost_ret (v := .agg ((L).map wcell).toArray) (results_row Tryz.results255 _ _ (B + 1) rfl ((L).map wcell) _ hW Tryz.underlying335 rfl HI.out) rfl ?_
      exact ⟨by rw [HLL.out], hgW⟩

end Go.Proofs.YtmomfbkpniblgaaGreatDoor

namespace Go.Proofs.YtmomfbkpniblgaaGreatDoor
open Go.RowKit
set_option linter.unusedVariables false

theorem add64_run (x y c : Nat) (hc : c ≤ 1) (w : World) : (callFunc 142 #[.int .u64 x, .int .u64 y, .int .u64 c]).run Tryz.prog w =
    .ok (.value (.tuple #[.int .u64 (((x + y + c) % 18446744073709551616 : Nat) : Int), .int .u64 (((x + y + c) / 18446744073709551616 : Nat) : Int)])) w := by
  rw [run_callFunc_extern Tryz.func142 (by kernel_rfl) (by kernel_rfl) (by kernel_rfl) (e := add64Entry) (by kernel_rfl), run_add64 x y c (by omega) (by omega) (by omega) (by omega)]
  simp only [Result.andThen]
  congr 5 <;> omega

/-- A sum of two words and a carry, under names. -/
theorem add64_named (x y c : Nat) (hc : c ≤ 1) (hx : x < 18446744073709551616) (hy : y < 18446744073709551616) : ∃ s d : Nat, s = (x + y + c) % 18446744073709551616 ∧ d = (x + y + c) / 18446744073709551616 ∧ d ≤ 1 ∧
    ∀ w : World, (callFunc 142 #[.int .u64 x, .int .u64 y, .int .u64 c]).run Tryz.prog w = .ok (.value (.tuple #[.int .u64 (s : Int), .int .u64 (d : Int)])) w :=
  ⟨_, _, rfl, rfl, by omega, fun w => add64_run x y c hc w⟩

set_option maxRecDepth 20000 in
set_option maxHeartbeats 1000000 in
theorem code_pplus (w : World) (x y : Nat) : Calls Tryz.prog 93 #[N3 x, N3 y] w (Grown (N3 (x + y)) w) := by
  have hfin : ∀ s0 s1 s2 c0 c1 : Nat, s0 = (x % 18446744073709551616 + y % 18446744073709551616 + 0) % 18446744073709551616 → c0 = (x % 18446744073709551616 + y % 18446744073709551616 + 0) / 18446744073709551616 →
      s1 = (x / 18446744073709551616 % 18446744073709551616 + y / 18446744073709551616 % 18446744073709551616 + c0) % 18446744073709551616 → c1 = (x / 18446744073709551616 % 18446744073709551616 + y / 18446744073709551616 % 18446744073709551616 + c0) / 18446744073709551616 →
      s2 = (x / 18446744073709551616 / 18446744073709551616 % 18446744073709551616 + y / 18446744073709551616 / 18446744073709551616 % 18446744073709551616 + c1) % 18446744073709551616 →
      N3 (x + y) = .agg #[.int .u64 (s0 : Int), .int .u64 (s1 : Int), .int .u64 (s2 : Int)] := by
    intro s0 s1 s2 c0 c1 h1 h2 h3 h4 h5
    obtain ⟨d0, d1, _, _, e0, e1, e2, e3, e4⟩ := sum_words x y
    rw [Nat.add_zero] at h1 h2
    obtain rfl : c0 = d0 := by rw [h2, e0]
    obtain rfl : c1 = d1 := by rw [h4, e2]
    rw [h1, h3, h5, e1, e3, e4]
    rfl
  generalize hV : N3 (x + y) = V at *
  clear hV
  unfold N3
  have ba : x % 18446744073709551616 < 18446744073709551616 := Nat.mod_lt _ (by omega)
  have bb : x / 18446744073709551616 % 18446744073709551616 < 18446744073709551616 := Nat.mod_lt _ (by omega)
  have bc : x / 18446744073709551616 / 18446744073709551616 % 18446744073709551616 < 18446744073709551616 := Nat.mod_lt _ (by omega)
  have bd : y % 18446744073709551616 < 18446744073709551616 := Nat.mod_lt _ (by omega)
  have be : y / 18446744073709551616 % 18446744073709551616 < 18446744073709551616 := Nat.mod_lt _ (by omega)
  have bf : y / 18446744073709551616 / 18446744073709551616 % 18446744073709551616 < 18446744073709551616 := Nat.mod_lt _ (by omega)
  generalize x % 18446744073709551616 = a at *
  generalize x / 18446744073709551616 % 18446744073709551616 = b at *
  generalize x / 18446744073709551616 / 18446744073709551616 % 18446744073709551616 = c at *
  generalize y % 18446744073709551616 = d at *
  generalize y / 18446744073709551616 % 18446744073709551616 = e' at *
  generalize y / 18446744073709551616 / 18446744073709551616 % 18446744073709551616 = f at *
  obtain ⟨s0, c0, h1, h2, k0, E0⟩ := add64_named a d 0 (by omega) ba bd
  obtain ⟨s1, c1, h3, h4, k1, E1⟩ := add64_named b e' c0 k0 bb be
  obtain ⟨s2, c2, h5, h6, k2, E2⟩ := add64_named c f c1 k1 bc bf
  have HF := Lib.hid (hfin s0 s1 s2 c0 c1 h1 h2 h3 h4 h5)
  have E0' : ∀ w : World, (callFunc 142 #[.int .u64 a, .int .u64 d, .int .u64 0]).run Tryz.prog w = .ok (.value (.tuple #[.int .u64 (s0 : Int), .int .u64 (c0 : Int)])) w := E0
  clear hfin h1 h2 h3 h4 h5 h6 E0 ba bb bc bd be bf k0 k1 k2
  go_enter Tryz.func93, Tryz.ntmps93
  go_wp2_with fail
  refine wp_loop_rounds 4 ?_
  rw [rounds_succ]
  go_wp2_with fail
  go_region
  go_wp2_with fail
  rw [rounds_succ]
  go_wp2_with fail
  go_region
  go_wp2_with fail
  rw [rounds_succ]
  go_wp2_with fail
  go_region
  go_wp2_with fail
  rw [rounds_succ]
  go_wp2_with fail
  refine bodyPost_ret (v := .agg #[.int .u64 (s0 : Int), .int .u64 (s1 : Int), .int .u64 (s2 : Int)]) (by simp [results, Tryz.results93, go_sem]) rfl ?_
  exact ⟨by rw [HF.out], grow_drew (grow_drew (grow_drew (grow_alloc (grow_alloc (grow_alloc (grow_refl w none) _) _) _)))⟩

theorem and3 (c : Nat) (hc : c < 18446744073709551616) : bits .and .u64 (c : Int) 3 = ((c % 4 : Nat) : Int) := by
  have := u64_and_nat c 3 hc (by omega)
  rw [show ((3 : Nat) : Int) = 3 from rfl] at this
  rw [this]
  congr 1
  exact Nat.and_two_pow_sub_one_eq_mod c 2

theorem N3_atoms (x : Nat) : ∃ p q r : Nat, N3 x = .agg #[.int .u64 (p : Int), .int .u64 (q : Int), .int .u64 (r : Int)] := ⟨_, _, _, rfl⟩

def z3 : List Value := [.int .u64 0, .int .u64 0, .int .u64 0]

theorem info3 : (Tryz.prog.info? 150).map (·.size) = some 3 := by kernel_rfl

/-- Facts on a block of three words, for the walk. -/
theorem blk3 {w : World} {B : Nat} {a b c : Value} (h : Blk w B 150 [a, b, c]) : (w.cell? ⟨B, 0, none⟩ = some a ∧ w.cell? ⟨B, 1, none⟩ = some b ∧ w.cell? ⟨B, 2, none⟩ = some c) ∧ w.frozen? ⟨B, 0, none⟩ = false ∧ w.frozen? ⟨B, 1, none⟩ = false ∧ w.frozen? ⟨B, 2, none⟩ = false :=
  ⟨⟨h.cell 0, h.cell 1, h.cell 2⟩, h.frozen 0, h.frozen 1, h.frozen 2⟩

theorem blk3_set {w : World} {B : Nat} {a b c : Value} (h : Blk w B 150 [a, b, c]) (p q r : Value) : Blk (((w.setCell ⟨B, 0, none⟩ p).setCell ⟨B, 1, none⟩ q).setCell ⟨B, 2, none⟩ r) B 150 [p, q, r] := ((h.set 0 p).set 1 q).set 2 r

theorem grow3 {a w : World} {B : Nat} {r : Option Nat} (h : a.grownBy w r) (hB : a.heap.size ≤ B) (p q s : Value) : a.grownBy (((w.setCell ⟨B, 0, none⟩ p).setCell ⟨B, 1, none⟩ q).setCell ⟨B, 2, none⟩ s) r :=
  grow_setCell_new (grow_setCell_new (grow_setCell_new h _ hB _) _ hB _) _ hB _

set_option maxRecDepth 20000 in
set_option maxHeartbeats 1000000 in
theorem code_pfolded (w : World) (x : Nat) (hx : x < 6277101735386680763835789423207666416102355444464034512896) : Calls Tryz.prog 148 #[N3 x] w (Grown (N3 (pfold x)) w) := by
  obtain ⟨V, hV⟩ : ∃ V, V = N3 (pfold x) := ⟨_, rfl⟩
  rw [← hV]
  have HV := Lib.hid hV
  clear hV
  unfold N3
  have hc : x / 18446744073709551616 / 18446744073709551616 % 18446744073709551616 < 18446744073709551616 := Nat.mod_lt _ (by omega)
  obtain ⟨a, ha⟩ : ∃ a, a = x % 18446744073709551616 := ⟨_, rfl⟩
  obtain ⟨b, hb⟩ : ∃ b, b = x / 18446744073709551616 % 18446744073709551616 := ⟨_, rfl⟩
  obtain ⟨c, hcc⟩ : ∃ c, c = x / 18446744073709551616 / 18446744073709551616 % 18446744073709551616 := ⟨_, rfl⟩
  rw [← ha, ← hb, ← hcc]
  rw [← hcc] at hc
  have hand := and3 c hc
  obtain ⟨hxe, la, lb, _⟩ := words_of x a b c hx ha hb hcc
  obtain ⟨f1, f2⟩ := fold_words x a b c hxe la lb
  have n1 := N3_of a b (c % 4) la lb (by omega)
  rw [← f1] at n1
  have n2 := N3_small (5 * (c / 4) % 18446744073709551616) (Nat.mod_lt _ (by omega))
  have hp : pfold x = x % 1361129467683753853853498429727072845824 + 5 * (c / 4) % 18446744073709551616 := by rw [pfold, f2]
  have e1 : IntKind.u64.wrap (5 * ((c : Int) / 4)) = ((5 * (c / 4) % 18446744073709551616 : Nat) : Int) := by
    show (5 * ((c : Int) / 4)) % 18446744073709551616 = _
    omega
  have A : ∀ W : World, Calls Tryz.prog 93 #[.agg #[.int .u64 (a : Int), .int .u64 (b : Int), .int .u64 ((c : Int) % 4)], .agg #[.int .u64 (IntKind.u64.wrap (5 * ((c : Int) / 4))), .int .u64 0, .int .u64 0]] W (Grown V W) := by
    intro W
    have h := code_pplus W (x % 1361129467683753853853498429727072845824) (5 * (c / 4) % 18446744073709551616)
    rw [← hp, ← HV.out, n1, n2] at h
    rw [e1]
    exact h
  clear ha hb hcc hxe f1 f2 n1 n2 hp e1
  go_enter Tryz.func148, Tryz.ntmps148
  go_wp2_with fail
  refine (A _).mono ?_
  rintro e w1 ⟨rfl, hg⟩
  obtain ⟨p, q, r, hN⟩ := N3_atoms (pfold x)
  have hVp := HV.out.trans hN
  rw [hVp]
  have HVP := Lib.hid hVp
  have hb0 := Blk.new (w.alloc (.cells #[.int .u64 (a : Int), .int .u64 (b : Int), .int .u64 ((c : Int) % 4)] 150)) 150 z3
  have hb := hb0.kept hg (by simp)
  rw [show (w.alloc (.cells #[.int .u64 (a : Int), .int .u64 (b : Int), .int .u64 ((c : Int) % 4)] 150)).heap.size = w.heap.size + 1 from by simp] at hb
  obtain ⟨⟨c0, c1, c2⟩, f0, f1, f2⟩ := blk3 hb
  have hgw := grow_trans (grow_alloc (grow_alloc (grow_refl w none) _) _) hg
  have HB := Lib.hid hb
  clear hVp hN hb hb0 hg
  go_wp2_with fail
  have hW := blk3_set HB.out (.int .u64 (p : Int)) (.int .u64 (q : Int)) (.int .u64 (r : Int))
  refine bodyPost_ret (v := .agg #[.int .u64 (p : Int), .int .u64 (q : Int), .int .u64 (r : Int)]) (results_row Tryz.results148 _ _ (w.heap.size + 1) rfl _ _ hW Tryz.underlying150 rfl info3) rfl ?_
  exact ⟨by rw [HVP.out], grow3 hgw (by omega) _ _ _⟩

theorem pfold_lt (x : Nat) : pfold x < 1361129467683753853871945173800782397440 := by
  unfold pfold
  omega

set_option maxRecDepth 20000 in
set_option maxHeartbeats 1000000 in
theorem code_pleast (w : World) (x : Nat) (hx : x < 6277101735386680763835789423207666416102355444464034512896) : Calls Tryz.prog 95 #[N3 x] w (Grown (N3 (pleast x)) w) := by
  obtain ⟨V, hV⟩ : ∃ V, V = N3 (pleast x) := ⟨_, rfl⟩
  rw [← hV]
  have hpl : pleast x = if 0 < (pfold x + 5) / 18446744073709551616 / 18446744073709551616 % 18446744073709551616 / 4 then (pfold x + 5) % 1361129467683753853853498429727072845824 else pfold x := rfl
  have hy := pfold_lt x
  have A1 : ∀ W : World, Calls Tryz.prog 148 #[N3 x] W (Grown (N3 (pfold x)) W) := fun W => code_pfolded W x hx
  generalize pfold x = y at *
  obtain ⟨a, b, c, hN⟩ := N3_atoms x
  rw [hN] at A1
  rw [hN]
  obtain ⟨p, q, r, hY⟩ := N3_atoms y
  have A2 : ∀ W : World, Calls Tryz.prog 93 #[N3 y, N3 5] W (Grown (N3 (y + 5)) W) := fun W => code_pplus W y 5
  rw [hY, N3_small 5 (by omega)] at A2
  rw [hY] at A1
  obtain ⟨d, hd⟩ : ∃ d, d = (y + 5) % 18446744073709551616 := ⟨_, rfl⟩
  obtain ⟨e', he⟩ : ∃ e, e = (y + 5) / 18446744073709551616 % 18446744073709551616 := ⟨_, rfl⟩
  obtain ⟨f, hf⟩ : ∃ f, f = (y + 5) / 18446744073709551616 / 18446744073709551616 % 18446744073709551616 := ⟨_, rfl⟩
  obtain ⟨m1, m2, m3, m4⟩ := words_of (y + 5) d e' f (by omega) hd he hf
  have hM : N3 (y + 5) = .agg #[.int .u64 (d : Int), .int .u64 (e' : Int), .int .u64 (f : Int)] := by unfold N3; rw [← hd, ← he, ← hf]
  rw [hM] at A2
  have hL : N3 ((y + 5) % 1361129467683753853853498429727072845824) = .agg #[.int .u64 (d : Int), .int .u64 (e' : Int), .int .u64 ((f : Int) % 4)] := by
    rw [(fold_words (y + 5) d e' f m1 m2 m3).1, N3_of d e' (f % 4) m2 m3 (by omega)]
    rfl
  have HV1 := Lib.hid (show 4 ≤ f → V = .agg #[.int .u64 (d : Int), .int .u64 (e' : Int), .int .u64 ((f : Int) % 4)] from fun h => by
    rw [hV, hpl, ← hf, if_pos (by omega), hL])
  have HV2 := Lib.hid (show ¬ 4 ≤ f → V = .agg #[.int .u64 (p : Int), .int .u64 (q : Int), .int .u64 (r : Int)] from fun h => by
    rw [hV, hpl, ← hf, if_neg (by omega), hY])
  have hand := and3 f m4
  clear hV hpl hy hN hY hM hL hd he hf m1 m2 m3 hx
  go_enter Tryz.func95, Tryz.ntmps95
  go_wp2_with fail
  refine (A1 _).mono ?_
  rintro e w1 ⟨rfl, hg⟩
  have hg1 := grow_trans (grow_alloc (grow_alloc (grow_refl w none) _) _) hg
  have hb1 := (Blk.new (w.alloc (.cells #[.int .u64 (a : Int), .int .u64 (b : Int), .int .u64 (c : Int)] 150)) 150 z3).kept hg (by simp)
  rw [show (w.alloc (.cells #[.int .u64 (a : Int), .int .u64 (b : Int), .int .u64 (c : Int)] 150)).heap.size = w.heap.size + 1 from by simp] at hb1
  have hb0 := ((Blk.new w 150 [.int .u64 (a : Int), .int .u64 (b : Int), .int .u64 (c : Int)]).kept (World.grownBy_alloc _ (.cells z3.toArray 150) none) (by simp)).kept hg (by simp)
  obtain ⟨⟨c0, c1, c2⟩, f0, f1, f2⟩ := blk3 hb0
  have hb0' := blk3_set hb0 (.int .u64 (p : Int)) (.int .u64 (q : Int)) (.int .u64 (r : Int))
  have hgs : w1.grownBy (((w1.setCell ⟨w.heap.size, 0, none⟩ (.int .u64 (p : Int))).setCell ⟨w.heap.size, 1, none⟩ (.int .u64 (q : Int))).setCell ⟨w.heap.size, 2, none⟩ (.int .u64 (r : Int))) (some w.heap.size) := grow_setCell (grow_setCell (grow_setCell (grow_refl _ _) _ _) _ _) _ _
  have hb1' := hb1.kept hgs (by simp)
  have hg2 := grow_trans_new hg1 hgs (Nat.le_refl _)
  have HB := Lib.hid (And.intro hb0' (And.intro hb1' hg2))
  clear hg hg1 hb1 hb0 hb0' hgs hb1' hg2
  go_upto_region 2 with (fail)
  clear c0 c1 c2 f0 f1 f2
  have HB2 := HB.out
  generalize (((w1.setCell ⟨w.heap.size, 0, none⟩ (.int .u64 (p : Int))).setCell ⟨w.heap.size, 1, none⟩ (.int .u64 (q : Int))).setCell ⟨w.heap.size, 2, none⟩ (.int .u64 (r : Int))) = x2 at *
  obtain ⟨k0, k1, kg⟩ := HB2
  obtain ⟨⟨c0, c1, c2⟩, f0, f1, f2⟩ := blk3 k0
  have HK := Lib.hid (And.intro k0 (And.intro k1 kg))
  clear k0 k1 kg HB
  go_wp2_with fail
  refine (A2 _).mono ?_
  rintro e w3 ⟨rfl, hg3⟩
  have k0 := HK.out.1.kept hg3 (by simp)
  have k1 := HK.out.2.1.kept hg3 (by simp)
  have kg := grow_trans HK.out.2.2 hg3
  have HK3 := Lib.hid (And.intro k0 (And.intro k1 kg))
  clear c0 c1 c2 f0 f1 f2 k0 k1 kg hg3 HK A1 A2
  go_upto_region 3 with (fail)
  have j0 := HK3.out.1.kept (World.grownBy_alloc w3 (.cells #[.int .u64 (d : Int), .int .u64 (e' : Int), .int .u64 (f : Int)] 150) none) (by simp)
  have j1 := HK3.out.2.1.kept (World.grownBy_alloc w3 (.cells #[.int .u64 (d : Int), .int .u64 (e' : Int), .int .u64 (f : Int)] 150) none) (by simp)
  have j3 : Blk (w3.alloc (.cells #[.int .u64 (d : Int), .int .u64 (e' : Int), .int .u64 (f : Int)] 150)) w3.heap.size 150 [.int .u64 (d : Int), .int .u64 (e' : Int), .int .u64 (f : Int)] := Blk.new w3 _ _
  have jg := grow_alloc HK3.out.2.2 (.cells #[.int .u64 (d : Int), .int .u64 (e' : Int), .int .u64 (f : Int)] 150)
  have jne : w3.heap.size ≠ w.heap.size + 1 := by have := HK3.out.2.1.lt; omega
  have jle : w.heap.size ≤ w3.heap.size := HK3.out.2.2.size
  generalize w3.alloc (.cells #[.int .u64 (d : Int), .int .u64 (e' : Int), .int .u64 (f : Int)] 150) = x4 at *
  generalize w3.heap.size = B3 at *
  clear HK3
  obtain ⟨⟨c0, c1, c2⟩, f0, f1, f2⟩ := blk3 j0
  obtain ⟨⟨k0, k1, k2⟩, g0, g1, g2⟩ := blk3 j1
  obtain ⟨⟨l0, l1, l2⟩, h0, h1, h2⟩ := blk3 j3
  have HJ := Lib.hid (And.intro j1 (And.intro j3 jg))
  clear j0 j1 j3 jg
  by_cases h4 : 4 ≤ f
  · have qp : (0 : Int) < (f : Int) / 4 := by omega
    have HVp := Lib.hid (HV1.out h4)
    clear HV1 HV2 h4 c0 c1 c2 f0 f1 f2
    have hs := (HJ.out.1.kept (grow_setCell (grow_refl x4 (some B3)) 2 (.int .u64 ((f : Int) % 4))) (by simp; omega))
    obtain ⟨⟨s0, s1, s2⟩, t0, t1, t2⟩ := blk3 hs
    have hs3 := HJ.out.2.1.set 2 (.int .u64 ((f : Int) % 4))
    obtain ⟨⟨u0, u1, u2⟩, _⟩ := blk3 (a := .int .u64 (d : Int)) (b := .int .u64 (e' : Int)) (c := .int .u64 ((f : Int) % 4)) hs3
    have hgs := grow_setCell_new HJ.out.2.2 ⟨B3, 2, none⟩ jle (.int .u64 ((f : Int) % 4))
    have HS := Lib.hid (And.intro hs hgs)
    clear hs hs3 hgs
    go_upto_region 5 with (fail)
    have HS2 := HS.out
    generalize x4.setCell ⟨B3, 2, none⟩ (.int .u64 ((f : Int) % 4)) = x5 at *
    clear HS HJ k0 k1 k2 g0 g1 g2 l0 l1 l2 h0 h1 h2
    have HS := Lib.hid HS2
    clear HS2
    go_wp2_with fail
    have hW := blk3_set HS.out.1 (.int .u64 (d : Int)) (.int .u64 (e' : Int)) (.int .u64 ((f : Int) % 4))
    refine bodyPost_ret (v := .agg #[.int .u64 (d : Int), .int .u64 (e' : Int), .int .u64 ((f : Int) % 4)]) (results_row Tryz.results95 _ _ (w.heap.size + 1) rfl _ _ hW Tryz.underlying150 rfl info3) rfl ?_
    exact ⟨by rw [HVp.out], grow3 HS.out.2 (by omega) _ _ _⟩
  · have qn : ¬ (0 : Int) < (f : Int) / 4 := by omega
    have HVp := Lib.hid (HV2.out h4)
    clear HV1 HV2 h4
    go_wp2_with fail
    have hW := blk3_set HJ.out.1 (.int .u64 (p : Int)) (.int .u64 (q : Int)) (.int .u64 (r : Int))
    refine bodyPost_ret (v := .agg #[.int .u64 (p : Int), .int .u64 (q : Int), .int .u64 (r : Int)]) (results_row Tryz.results95 _ _ (w.heap.size + 1) rfl _ _ hW Tryz.underlying150 rfl info3) rfl ?_
    exact ⟨by rw [HVp.out], grow3 HJ.out.2.2 (by omega) _ _ _⟩

end Go.Proofs.YtmomfbkpniblgaaGreatDoor

namespace Go.Proofs.YtmomfbkpniblgaaGreatDoor
open Go.RowKit
set_option linter.unusedVariables false

theorem bigN_append (a b : List UInt8) : bigN (a ++ b) = bigN a * 256 ^ b.length + bigN b := by
  have h : ∀ (b : List UInt8) (n : Nat), b.foldl (fun n c => n * 256 + c.toNat) n = n * 256 ^ b.length + b.foldl (fun n c => n * 256 + c.toNat) 0 := by
    intro b
    induction b with
    | nil => intro n; simp
    | cons c b ih =>
      intro n
      rw [List.foldl_cons, ih, List.foldl_cons, ih (0 * 256 + c.toNat), List.length_cons, Nat.pow_succ, Nat.add_mul]
      simp only [Nat.zero_mul, Nat.zero_add]
      have : n * 256 * 256 ^ b.length = n * (256 ^ b.length * 256) := by rw [Nat.mul_assoc, Nat.mul_comm 256]
      omega
  unfold bigN
  rw [List.foldl_append, h b]

theorem bigB_succ (n k : Nat) : bigB n (k + 1) = UInt8.ofNat (n / 256 ^ k) :: bigB n k := by
  unfold bigB
  rw [List.range_succ_eq_map, List.map_cons, List.map_map]
  congr 1
  · have : 2 ^ (8 * (k + 1 - 1 - 0)) = 256 ^ k := by
      rw [show k + 1 - 1 - 0 = k from by omega, Nat.pow_mul]
    rw [this]
  · apply List.map_congr_left
    intro i hi
    have hi' := List.mem_range.1 hi
    simp only [Function.comp]
    rw [show k + 1 - 1 - (i + 1) = k - 1 - i from by omega]

/-- What was written in so many bytes is read back. -/
theorem bigN_bigB (n : Nat) : ∀ k, bigN (bigB n k) = n % 256 ^ k
  | 0 => by simp [bigB, bigN, Nat.mod_one]
  | k + 1 => by
    rw [bigB_succ, show UInt8.ofNat (n / 256 ^ k) :: bigB n k = [UInt8.ofNat (n / 256 ^ k)] ++ bigB n k from rfl, bigN_append, bigN_bigB n k, bigB_length]
    have e : bigN [UInt8.ofNat (n / 256 ^ k)] = n / 256 ^ k % 256 := by simp [bigN]
    rw [e, Nat.pow_succ, Nat.mod_mul]
    rw [Nat.mul_comm]
    omega

theorem bigN_cons (c : UInt8) (l : List UInt8) : bigN (c :: l) = c.toNat * 256 ^ l.length + bigN l := by
  rw [show c :: l = [c] ++ l from rfl, bigN_append]; simp [bigN]

theorem bigN_inj : ∀ a b : List UInt8, a.length = b.length → bigN a = bigN b → a = b
  | [], [], _, _ => rfl
  | c :: a, d :: b, hl, h => by
    have hl' : a.length = b.length := by simpa using hl
    rw [bigN_cons, bigN_cons, hl'] at h
    have h1 := bigN_lt a
    have h2 := bigN_lt b
    rw [hl'] at h1
    have e : c.toNat = d.toNat := by
      rcases Nat.lt_trichotomy c.toNat d.toNat with hc | hc | hc
      · have := Nat.mul_le_mul_right (256 ^ b.length) (show c.toNat + 1 ≤ d.toNat from hc)
        rw [Nat.add_mul] at this; omega
      · exact hc
      · have := Nat.mul_le_mul_right (256 ^ b.length) (show d.toNat + 1 ≤ c.toNat from hc)
        rw [Nat.add_mul] at this; omega
    rw [e] at h
    rw [UInt8.toNat_inj.1 e, bigN_inj a b hl' (by omega)]

/-- What is read is written so. -/
theorem bigB_bigN (l : List UInt8) : bigB (bigN l) l.length = l :=
  bigN_inj _ _ (bigB_length _ _) (by rw [bigN_bigB, Nat.mod_eq_of_lt (bigN_lt l)])

theorem u8_cmp (a b : UInt8) : decide (a < b) = decide (a.toNat < b.toNat) ∧ (a == b) = decide (a.toNat = b.toNat) := by
  constructor
  · rfl
  · rw [Bool.eq_iff_iff]
    simp [UInt8.toNat_inj]


/-- Sixteen bytes are two words. -/
theorem bigB_16 (n : Nat) (h : n < 340282366920938463463374607431768211456) : bigB n 16 = bigB (n / 18446744073709551616) 8 ++ bigB (n % 18446744073709551616) 8 := by
  refine bigN_inj _ _ (by rw [List.length_append, bigB_length, bigB_length, bigB_length]) ?_
  rw [bigN_append, bigN_bigB, bigN_bigB, bigN_bigB, bigB_length]
  simp only [Nat.reducePow]
  omega

theorem bigN_16 (l : List UInt8) (h : l.length = 16) : bigN l = 18446744073709551616 * bigN (l.take 8) + bigN (l.drop 8) := by
  have e : l = l.take 8 ++ l.drop 8 := (List.take_append_drop 8 l).symm
  conv => lhs; rw [e, bigN_append]
  rw [List.length_drop, h]
  simp only [Nat.reduceSub, Nat.reducePow]
  omega

end Go.Proofs.YtmomfbkpniblgaaGreatDoor
