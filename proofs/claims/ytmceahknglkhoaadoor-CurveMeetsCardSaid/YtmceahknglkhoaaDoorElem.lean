/- Numbers modulo 2^255 - 19: carried, plus, minus. -/
import Derived.Test.YtmceahknglkhoaaDoorElemNum
import Derived.Test.YtmceahknglkhoaaDoorZeros
import Derived.Test.YtmceahknglkhoaaDoorRow
import Derived.StillTailTactics
namespace Go.Proofs.YtmceahknglkhoaaDoor
open Go.RowKit
set_option linter.unusedVariables false

def c64 (n : Nat) : Value := .int .u64 (n : Int)
def N5 (l : List Nat) : Value := .agg (l.map c64).toArray
/-- The block of a number. -/
def NB (w : World) (B : Nat) (l : List Nat) : Prop := Blk w B 64 (l.map c64)
/-- A result: limbs as results have them, of a number that leaves what v leaves. -/
def NumIs (v : Nat) (w : World) (e : Ending) (w' : World) : Prop := ∃ l, e = .returned (N5 l) ∧ Ok5 l ∧ lval l % PP = v % PP ∧ w.grownBy w' none

theorem five {b : List Nat} (h : b.length = 5) : ∃ a0 a1 a2 a3 a4, b = [a0, a1, a2, a3, a4] := by
  match b, h with
  | [a0, a1, a2, a3, a4], _ => exact ⟨a0, a1, a2, a3, a4, rfl⟩

theorem NB.cell {w : World} {B : Nat} {l : List Nat} (h : NB w B l) (i : Nat) (hi : i < l.length) : w.cell? ⟨B, i, none⟩ = some (.int .u64 (l[i] : Nat)) := by
  rw [Blk.cell h]
  simp [c64, hi]
theorem NB.frozen {w : World} {B : Nat} {l : List Nat} (h : NB w B l) (i : Nat) : w.frozen? ⟨B, i, none⟩ = false := Blk.frozen h i
theorem NB.set {w : World} {B : Nat} {l : List Nat} (h : NB w B l) (i n : Nat) : NB (w.setCell ⟨B, i, none⟩ (.int .u64 (n : Int))) B (l.set i n) := by
  have := Blk.set h i (c64 n)
  unfold NB
  rw [List.map_set]
  exact this
theorem NB.five {w : World} {B a0 a1 a2 a3 a4 : Nat} (h : NB w B [a0, a1, a2, a3, a4]) :
    (w.cell? ⟨B, 0, none⟩ = some (.int .u64 (a0 : Int)) ∧ w.cell? ⟨B, 1, none⟩ = some (.int .u64 (a1 : Int)) ∧ w.cell? ⟨B, 2, none⟩ = some (.int .u64 (a2 : Int)) ∧ w.cell? ⟨B, 3, none⟩ = some (.int .u64 (a3 : Int)) ∧ w.cell? ⟨B, 4, none⟩ = some (.int .u64 (a4 : Int))) ∧
    w.frozen? ⟨B, 0, none⟩ = false ∧ w.frozen? ⟨B, 1, none⟩ = false ∧ w.frozen? ⟨B, 2, none⟩ = false ∧ w.frozen? ⟨B, 3, none⟩ = false ∧ w.frozen? ⟨B, 4, none⟩ = false :=
  ⟨⟨h.cell 0 (by simp), h.cell 1 (by simp), h.cell 2 (by simp), h.cell 3 (by simp), h.cell 4 (by simp)⟩, h.frozen 0, h.frozen 1, h.frozen 2, h.frozen 3, h.frozen 4⟩

theorem mask51 (c : Nat) (hc : c < 18446744073709551616) : bits .and .u64 (c : Int) 2251799813685247 = ((c % 2251799813685248 : Nat) : Int) := by
  have := u64_and_nat c 2251799813685247 hc (by omega)
  rw [show ((2251799813685247 : Nat) : Int) = 2251799813685247 from rfl] at this
  rw [this]
  congr 1
  exact Nat.and_two_pow_sub_one_eq_mod c 51

theorem grow5 {a w : World} {B : Nat} {r : Option Nat} (h : a.grownBy w r) (hB : a.heap.size ≤ B) (v0 v1 v2 v3 v4 : Value) : a.grownBy (((((w.setCell ⟨B, 0, none⟩ v0).setCell ⟨B, 1, none⟩ v1).setCell ⟨B, 2, none⟩ v2).setCell ⟨B, 3, none⟩ v3).setCell ⟨B, 4, none⟩ v4) r :=
  grow_setCell_new (grow_setCell_new (grow_setCell_new (grow_setCell_new (grow_setCell_new h _ hB _) _ hB _) _ hB _) _ hB _) _ hB _

/-- The limbs when i are carried. -/
def carI (L : List Nat) (i : Nat) : List Nat := (carF (L.take i) 0).1 ++ L.drop i
theorem carI_length (L : List Nat) (i : Nat) : (carI L i).length = L.length := by
  unfold carI
  rw [List.length_append, carF_length, List.length_take, List.length_drop]
  omega
theorem carI_at (L : List Nat) (i : Nat) (hi : i < L.length) : (carI L i)[i]'(by rw [carI_length]; exact hi) = L[i] := by
  have : (carF (L.take i) 0).1.length = i := by rw [carF_length, List.length_take]; omega
  unfold carI
  rw [List.getElem_append_right (by omega), List.getElem_drop]
  congr 1
  omega
theorem carI_next (L : List Nat) (i : Nat) (hi : i < L.length) : (carI L i).set i ((L[i] + (carF (L.take i) 0).2) % 2251799813685248) = carI L (i + 1) ∧ (carF (L.take (i + 1)) 0).2 = (L[i] + (carF (L.take i) 0).2) / 2251799813685248 := by
  have hl : (carF (L.take i) 0).1.length = i := by rw [carF_length, List.length_take]; omega
  have e : L.drop i = L[i] :: L.drop (i + 1) := List.drop_eq_getElem_cons hi
  have et : L.take (i + 1) = L.take i ++ [L[i]] := List.take_succ_eq_append_getElem hi
  unfold carI
  rw [et, carF_snoc, List.set_append_right _ _ (by omega), hl, Nat.sub_self, e, List.set_cons_zero]
  exact ⟨by rw [List.append_assoc]; rfl, rfl⟩

def carR (l : List Nat) : Nat → List Nat
  | 0 => l
  | r + 1 => car1 (carR l r)

theorem car1_le (l : List Nat) (hl : l.length = 5) (h : ∀ x ∈ l, x ≤ 9223372036854775808) : ∀ x ∈ car1 l, x ≤ 9223372036854775808 := by
  obtain ⟨a, t, e, ht, ha, hs⟩ := car1_cons l 4096 hl (fun x hx => by have := h x hx; omega)
  intro x hx
  rw [e] at hx
  rcases List.mem_cons.1 hx with rfl | hx
  · omega
  · have := hs x hx; omega

set_option maxRecDepth 20000 in
set_option maxHeartbeats 2000000 in
theorem code_ncarried (w : World) (l : List Nat) (hl : l.length = 5) (hb : ∀ x ∈ l, x ≤ 9223372036854775808) :
    Calls Tryd.prog 52 #[N5 l] w (Grown (N5 (carL l)) w) := by
  obtain ⟨B, hB⟩ : ∃ B, B = w.heap.size := ⟨_, rfl⟩
  obtain ⟨x, hx⟩ : ∃ x, x = (w.alloc (.cells (l.map c64).toArray 64)).alloc (.cells #[.int .u64 0, .int .u64 0, .int .u64 0, .int .u64 0, .int .u64 0] 64) := ⟨_, rfl⟩
  have bN : NB x B l := by rw [hx, hB]; exact obj_alloc (obj_new w _)
  have bR : NB x (B + 1) [0, 0, 0, 0, 0] := by
    have := obj_new (w.alloc (.cells (l.map c64).toArray 64)) (.cells #[.int .u64 0, .int .u64 0, .int .u64 0, .int .u64 0, .int .u64 0] 64)
    rw [show (w.alloc (.cells (l.map c64).toArray 64)).heap.size = B + 1 from by rw [hB]; simp] at this
    rw [hx]
    exact this
  have hgx : w.grownBy x none := by rw [hx]; exact grow_alloc (grow_alloc (grow_refl w none) _) _
  have HV : Hid (carR l 2 = carL l) := Lib.hid rfl
  have hBw : w.heap.size ≤ B := by omega
  generalize hVV : carL l = V at *
  clear hVV
  have HN := Lib.hid bN
  have HR := Lib.hid bR
  have HG := Lib.hid hgx
  have HB := Lib.hid hB
  have HX := Lib.hid hx
  have HL := Lib.hid (And.intro hl hb)
  clear bN bR hgx hB hx hl hb
  unfold N5
  go_enter Tryd.func52, Tryd.ntmps52
  go_wp2_with fail
  rw [← HB.out, ← HX.out]
  go_loopw [3, 4, 5, 7] (fun v3 v4 vr v7 wr => ∃ (r : Nat) (L : List Nat), r ≤ 2 ∧ vr = .int .i64 r ∧ Hid (L = carR l r) ∧ Hid (L.length = 5 ∧ ∀ x ∈ L, x ≤ 9223372036854775808) ∧ Hid (NB wr B L) ∧ Hid (x.grownBy wr (some B))) (fun _ _ vr _ _ => 2 - (intOf vr).toNat)
  case atStart => exact ⟨0, l, by omega, rfl, Lib.hid rfl, HL, HN, Lib.hid (grow_refl _ _)⟩
  case round =>
    clear HL HN HX
    obtain ⟨r, L, hr, rfl, hLr, hL, hN, hg⟩ := hrel
    by_cases hlt : r < 2
    · have hd : decide ((r : Int) < 2) = true := by simp; omega
      go_wp2_with fail
      go_loopw [3, 4, 7] (fun v3 v4 vi wr => ∃ (i c : Nat), i ≤ 5 ∧ vi = .int .i64 i ∧ v3 = .int .u64 (c : Int) ∧ c ≤ 4096 ∧ Hid (c = (carF (L.take i) 0).2) ∧ Hid (NB wr B (carI L i)) ∧ Hid (x.grownBy wr (some B))) (fun _ _ vi _ => 5 - (intOf vi).toNat)
      case atStart => exact ⟨0, 0, by omega, rfl, rfl, by omega, Lib.hid rfl, Lib.hid (by show NB _ _ ([] ++ L.drop 0); rw [List.drop_zero, List.nil_append]; exact hN.out), hg⟩
      case round =>
        clear hN hg
        obtain ⟨i, c, hi, rfl, rfl, hc, hce, hK, hg⟩ := hrel
        by_cases hli : i < 5
        · have hiL : i < L.length := by rw [hL.out.1]; exact hli
          have hxb := hL.out.2 L[i] (List.getElem_mem hiL)
          have cl := hK.out.cell i (by rw [carI_length]; exact hiL)
          rw [carI_at L i hiL] at cl
          have fr := hK.out.frozen i
          obtain ⟨n1, n2⟩ := carI_next L i hiL
          rw [← hce.out] at n1 n2
          have hst := (hK.out.set i (L[i] + c)).set i ((L[i] + c) % 2251799813685248)
          rw [List.set_set, n1] at hst
          have hgs := grow_setCell (grow_setCell hg.out i (.int .u64 ((L[i] + c : Nat) : Int))) i (.int .u64 (((L[i] + c) % 2251799813685248 : Nat) : Int))
          have HS := Lib.hid (And.intro hst hgs)
          have HN2 := Lib.hid n2
          generalize L[i] = z at *
          have m1 : bits .and .u64 ((z : Int) + (c : Int)) 2251799813685247 = (((z + c) % 2251799813685248 : Nat) : Int) := by
            have := mask51 (z + c) (by omega)
            simpa using this
          have hcn : (z + c) / 2251799813685248 ≤ 4096 := by omega
          clear hst hgs n1 n2 hK hg hiL
          have hst' : NB ((wr.setCell ⟨B, i, none⟩ (.int .u64 ((z : Int) + (c : Int)))).setCell ⟨B, i, none⟩ (.int .u64 (((z : Int) + (c : Int)) % 2251799813685248))) B (carI L (i + 1)) := by simpa using HS.out.1
          have hgs' : x.grownBy ((wr.setCell ⟨B, i, none⟩ (.int .u64 ((z : Int) + (c : Int)))).setCell ⟨B, i, none⟩ (.int .u64 (((z : Int) + (c : Int)) % 2251799813685248))) (some B) := by simpa using HS.out.2
          have HS1 := Lib.hid hst'
          have HS2 := Lib.hid hgs'
          clear hst' hgs' HS
          go_wp2_with fail
          go_roundw
          case rel => exact ⟨i + 1, (z + c) / 2251799813685248, by omega, by go_num, by congr 1, hcn, Lib.hid HN2.out.symm, HS1, HS2⟩
          case measure => simp [intOf]; omega
        · obtain rfl : i = 5 := by omega
          have e5 : carI L 5 = (carF L 0).1 := by
            unfold carI
            rw [List.take_of_length_le (by have := hL.out.1; omega), List.drop_of_length_le (by have := hL.out.1; omega), List.append_nil]
          have ec : c = (carF L 0).2 := by
            have := hce.out
            rwa [List.take_of_length_le (by have := hL.out.1; omega)] at this
          have hK2 := hK.out
          rw [e5] at hK2
          have hFl : 0 < (carF L 0).1.length := by rw [carF_length, hL.out.1]; omega
          have c0 := hK2.cell 0 hFl
          have f0 := hK2.frozen 0
          have hx0 := carF_small L 0 (carF L 0).1[0] (List.getElem_mem hFl)
          have hst := hK2.set 0 ((carF L 0).1[0] + 19 * c)
          have hcar : (carF L 0).1.set 0 ((carF L 0).1[0] + 19 * c) = car1 L := by
            unfold car1
            rw [ec, List.getD_eq_getElem?_getD, List.getElem?_eq_getElem hFl]
            rfl
          rw [hcar] at hst
          have hgs := grow_setCell hg.out 0 (.int .u64 (((carF L 0).1[0] + 19 * c : Nat) : Int))
          have hcl := car1_le L hL.out.1 hL.out.2
          have hcl2 := car1_length L
          have HCL := Lib.hid (And.intro (hcl2.trans hL.out.1) hcl)
          have HLR := Lib.hid (show car1 L = carR l (r + 1) from by rw [carR, ← hLr.out])
          generalize (carF L 0).1[0] = z at *
          have hst' : NB (wr.setCell ⟨B, 0, none⟩ (.int .u64 ((z : Int) + 19 * (c : Int)))) B (car1 L) := by simpa using hst
          have hgs' : x.grownBy (wr.setCell ⟨B, 0, none⟩ (.int .u64 ((z : Int) + 19 * (c : Int)))) (some B) := by simpa using hgs
          have HS1 := Lib.hid hst'
          have HS2 := Lib.hid hgs'
          clear hst hgs hst' hgs' hcar hcl hcl2 hK2 e5 ec hFl hK hg hce
          go_wp2_with fail
          go_roundw
          case rel => exact ⟨r + 1, car1 L, by omega, by go_num, HLR, HCL, HS1, HS2⟩
          case measure => simp [intOf]; omega
    · obtain rfl : r = 2 := by omega
      have hLV : L = V := by rw [hLr.out, HV.out]
      obtain ⟨a0, a1, a2, a3, a4, h5⟩ := five hL.out.1
      have bR := Blk.kept HR.out hg.out (by simp)
      have hN2 := hN.out
      rw [h5] at hN2
      have hV5 : V = [a0, a1, a2, a3, a4] := by rw [← hLV, h5]
      obtain ⟨⟨k0, k1, k2, k3, k4⟩, _⟩ := hN2.five
      have bR2 : NB wr (B + 1) [0, 0, 0, 0, 0] := bR
      obtain ⟨⟨z0, z1, z2, z3, z4⟩, f0, f1, f2, f3, f4⟩ := bR2.five
      have HV5 := Lib.hid hV5
      have hfin := Lib.hid (grow5 (B := B + 1) (grow_trans_new HG.out hg.out (by have := HB.out; omega)) (by have := HB.out; omega) (.int .u64 (a0 : Int)) (.int .u64 (a1 : Int)) (.int .u64 (a2 : Int)) (.int .u64 (a3 : Int)) (.int .u64 (a4 : Int)))
      clear hLV h5 hN2 hV5 bR bR2 hLr hL hN hg
      go_wp2_with fail
      refine bodyPost_ret (v := .agg #[.int .u64 (a0 : Int), .int .u64 (a1 : Int), .int .u64 (a2 : Int), .int .u64 (a3 : Int), .int .u64 (a4 : Int)]) (by simp [results, Tryd.results52, go_sem, z0, z1, z2, z3, z4]) rfl ?_
      exact ⟨by rw [HV5.out]; rfl, hfin.out⟩

end Go.Proofs.YtmceahknglkhoaaDoor
