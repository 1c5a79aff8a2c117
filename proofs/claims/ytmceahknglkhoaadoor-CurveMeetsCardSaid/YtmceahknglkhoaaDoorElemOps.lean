/- Numbers modulo 2^255 - 19: plus, minus, sums of products. -/
import Derived.Test.YtmceahknglkhoaaDoorElem
import Derived.Test.YtmceahknglkhoaaDoorAdd64
namespace Go.Proofs.YtmceahknglkhoaaDoor
open Go.RowKit
set_option linter.unusedVariables false

theorem N5_lit (a0 a1 a2 a3 a4 : Nat) : N5 [a0, a1, a2, a3, a4] = .agg #[.int .u64 (a0 : Int), .int .u64 (a1 : Int), .int .u64 (a2 : Int), .int .u64 (a3 : Int), .int .u64 (a4 : Int)] := rfl

/-- So far added. -/
def plusI (a b : List Nat) (i : Nat) : List Nat := (plusL a b).take i ++ a.drop i
theorem plusL_length (a b : List Nat) : (plusL a b).length = min a.length b.length := List.length_zipWith
theorem plusL_at (a b : List Nat) (i : Nat) (h : i < (plusL a b).length) (h1 : i < a.length) (h2 : i < b.length) : (plusL a b)[i] = a[i] + b[i] := by simp [plusL]
theorem part_set' (X a : List Nat) (i : Nat) (hX : X.length = a.length) (hi : i < a.length) : (X.take i ++ a.drop i).set i (X[i]'(by omega)) = X.take (i + 1) ++ a.drop (i + 1) := by
  have e : a.drop i = a[i] :: a.drop (i + 1) := List.drop_eq_getElem_cons hi
  have lt : (X.take i).length = i := by rw [List.length_take]; omega
  rw [List.set_append_right _ _ (by omega), lt, Nat.sub_self, e, List.set_cons_zero, List.take_succ_eq_append_getElem (by omega), List.append_assoc]
  rfl
theorem part_at (X a : List Nat) (i : Nat) (hX : X.length = a.length) (hi : i < a.length) : (X.take i ++ a.drop i)[i]'(by rw [List.length_append, List.length_take, List.length_drop]; omega) = a[i] := by
  have lt : (X.take i).length = i := by rw [List.length_take]; omega
  rw [List.getElem_append_right (by omega), List.getElem_drop]
  congr 1
  omega
theorem part_len (X a : List Nat) (i : Nat) (hX : X.length = a.length) (hi : i ≤ a.length) : (X.take i ++ a.drop i).length = a.length := by
  rw [List.length_append, List.length_take, List.length_drop]
  omega

set_option maxRecDepth 20000 in
set_option maxHeartbeats 2000000 in
theorem code_nplus (w : World) (a b : List Nat) (ha : Ok5 a) (hb : Ok5 b) :
    Calls Tryd.prog 40 #[N5 a, N5 b] w (NumIs (lval a + lval b) w) := by
  obtain ⟨B, hB⟩ : ∃ B, B = w.heap.size := ⟨_, rfl⟩
  obtain ⟨x, hx⟩ : ∃ x, x = ((w.alloc (.cells (a.map c64).toArray 64)).alloc (.cells (b.map c64).toArray 64)).alloc (.cells #[.int .u64 0, .int .u64 0, .int .u64 0, .int .u64 0, .int .u64 0] 64) := ⟨_, rfl⟩
  have s1 : (w.alloc (.cells (a.map c64).toArray 64)).heap.size = B + 1 := by rw [hB]; simp
  have s2 : ((w.alloc (.cells (a.map c64).toArray 64)).alloc (.cells (b.map c64).toArray 64)).heap.size = B + 1 + 1 := by rw [hB]; simp
  have bA : NB x B a := by rw [hx, hB]; exact obj_alloc (obj_alloc (obj_new w _))
  have bB : NB x (B + 1) b := by rw [hx, ← s1]; exact obj_alloc (obj_new _ _)
  have bR : NB x (B + 1 + 1) [0, 0, 0, 0, 0] := by rw [hx, ← s2]; exact obj_new _ _
  have hgx : w.grownBy x none := by rw [hx]; exact grow_alloc (grow_alloc (grow_alloc (grow_refl w none) _) _) _
  have la := ha.length
  have lb := hb.length
  have lX : (plusL a b).length = a.length := by rw [plusL_length, la, lb]; rfl
  have hXle : ∀ x ∈ plusL a b, x ≤ 9223372036854775808 := by
    intro z hz
    obtain ⟨i, hi, rfl⟩ := List.getElem_of_mem hz
    rw [plusL_at a b i hi (by omega) (by omega)]
    have h1 := ha.le _ (List.getElem_mem (show i < a.length by omega))
    have h2 := hb.le _ (List.getElem_mem (show i < b.length by omega))
    omega
  have hval := plusL_val a b (by omega)
  have HC : ∀ W : World, Calls Tryd.prog 52 #[N5 (plusL a b)] W (Grown (N5 (carL (plusL a b))) W) := fun W => code_ncarried W _ (by omega) hXle
  have hok := carL_ok (plusL a b) (by omega) hXle
  have hcv := carL_val (plusL a b) (by omega)
  rw [hval] at hcv
  have HRES := Lib.hid (And.intro hok hcv)
  have HA := Lib.hid bA
  have HBB := Lib.hid bB
  have HR := Lib.hid bR
  have HG := Lib.hid hgx
  have HB := Lib.hid hB
  have HX := Lib.hid hx
  have HLA := Lib.hid la
  have HLB := Lib.hid lb
  have HLX := Lib.hid lX
  have HAL := Lib.hid ha.le
  have HBL := Lib.hid hb.le
  clear hok hcv hval hXle bA bB bR hgx hB hx s1 s2 la lb lX ha hb
  unfold N5
  go_enter Tryd.func40, Tryd.ntmps40
  go_wp2_with fail
  rw [← HB.out, ← HX.out]
  go_loopw [5, 6] (fun v5 vi wr => ∃ i : Nat, i ≤ 5 ∧ vi = .int .i64 i ∧ Hid (NB wr B ((plusL a b).take i ++ a.drop i)) ∧ Hid (x.grownBy wr (some B))) (fun _ vi _ => 5 - (intOf vi).toNat)
  case atStart => exact ⟨0, by omega, rfl, Lib.hid (by rw [List.take_zero, List.nil_append, List.drop_zero]; exact HA.out), Lib.hid (grow_refl _ _)⟩
  case round =>
    clear HA HX
    obtain ⟨i, hi, rfl, hK, hg⟩ := hrel
    by_cases hli : i < 5
    · have hia : i < a.length := by rw [HLA.out]; exact hli
      have hib : i < b.length := by rw [HLB.out]; exact hli
      have ca := hK.out.cell i (by rw [part_len _ _ _ HLX.out (by omega)]; exact hia)
      rw [part_at _ _ _ HLX.out hia] at ca
      have fa := hK.out.frozen i
      have bB : NB wr (B + 1) b := Blk.kept HBB.out hg.out (by simp)
      have cb := bB.cell i hib
      have hst := hK.out.set i (a[i] + b[i])
      have e : a[i] + b[i] = (plusL a b)[i]'(by rw [HLX.out]; exact hia) := (plusL_at a b i _ hia hib).symm
      have hst2 : NB (wr.setCell ⟨B, i, none⟩ (.int .u64 ((a[i] + b[i] : Nat) : Int))) B ((plusL a b).take (i + 1) ++ a.drop (i + 1)) := by
        rw [← part_set' _ _ _ HLX.out hia, ← e]; exact hst
      have hgs := grow_setCell hg.out i (.int .u64 ((a[i] + b[i] : Nat) : Int))
      have k1 := HAL.out a[i] (List.getElem_mem hia)
      have k2 := HBL.out b[i] (List.getElem_mem hib)
      generalize a[i] = p at *
      generalize b[i] = q at *
      have hst' : NB (wr.setCell ⟨B, i, none⟩ (.int .u64 ((p : Int) + (q : Int)))) B ((plusL a b).take (i + 1) ++ a.drop (i + 1)) := by simpa using hst2
      have hgs' : x.grownBy (wr.setCell ⟨B, i, none⟩ (.int .u64 ((p : Int) + (q : Int)))) (some B) := by simpa using hgs
      have HS1 := Lib.hid hst'
      have HS2 := Lib.hid hgs'
      have i0 : (0 : Int) ≤ (i : Int) := by omega
      have i1 : (i : Int) < 5 := by omega
      have w1 : IntKind.u64.wrap ((p : Int) + (q : Int)) = (p : Int) + (q : Int) := IntWalk.u64_in _ (by omega)
      clear hst' hgs' hst hst2 hgs e bB hK hg hia hib
      go_wp2_with fail
      go_still_tail 8, (by kernel_rfl)
      change wpList _ _ _ _ _ wr.drew
      go_wp2_with fail
      go_roundw
      case rel => exact ⟨i + 1, by omega, by go_num, HS1, Lib.hid (grow_drew HS2.out)⟩
      case measure => simp [intOf]; omega
    · obtain rfl : i = 5 := by omega
      have hK2 := hK.out
      rw [List.take_of_length_le (by rw [HLX.out, HLA.out]; omega), List.drop_of_length_le (by rw [HLA.out]; omega), List.append_nil] at hK2
      obtain ⟨s0, s1, s2, s3, s4, h5⟩ := five (HLX.out.trans HLA.out)
      rw [h5] at hK2 HC
      obtain ⟨r0, r1, r2, r3, r4, h6⟩ := five (HRES.out.1.length)
      rw [← h5, h6, h5, N5_lit, N5_lit] at HC
      obtain ⟨⟨k0, k1, k2, k3, k4⟩, _⟩ := hK2.five
      have bR : NB wr (B + 1 + 1) [0, 0, 0, 0, 0] := Blk.kept HR.out hg.out (by simp; omega)
      have HR2 := Lib.hid bR
      have HG2 := Lib.hid (grow_trans_new HG.out hg.out (by have := HB.out; omega))
      have HRR := Lib.hid h6
      have HC' := HC
      clear h5 h6 hK2 bR hK hg HC
      go_wp2_with fail
      (with_reducible refine (HC' _).mono ?_)
      rintro e w2 ⟨rfl, hg2⟩
      have bR3 : NB w2 (B + 1 + 1) [0, 0, 0, 0, 0] := Blk.kept HR2.out hg2 nofun
      obtain ⟨⟨z0, z1, z2, z3, z4⟩, f0, f1, f2, f3, f4⟩ := bR3.five
      have hfin := Lib.hid (grow5 (B := B + 1 + 1) (grow_trans HG2.out hg2) (by have := HB.out; omega) (.int .u64 (r0 : Int)) (.int .u64 (r1 : Int)) (.int .u64 (r2 : Int)) (.int .u64 (r3 : Int)) (.int .u64 (r4 : Int)))
      clear k0 k1 k2 k3 k4 bR3 hg2 HC'
      go_wp2_with fail
      refine bodyPost_ret (v := .agg #[.int .u64 (r0 : Int), .int .u64 (r1 : Int), .int .u64 (r2 : Int), .int .u64 (r3 : Int), .int .u64 (r4 : Int)]) (by simp [results, Tryd.results40, go_sem, z0, z1, z2, z3, z4]) rfl ?_
      exact ⟨carL (plusL a b), by rw [HRR.out]; rfl, HRES.out.1, HRES.out.2, hfin.out⟩

end Go.Proofs.YtmceahknglkhoaaDoor
