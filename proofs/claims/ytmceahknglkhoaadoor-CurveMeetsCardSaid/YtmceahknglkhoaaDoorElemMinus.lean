/- Numbers modulo 2^255 - 19: minus. -/
import Derived.Test.YtmceahknglkhoaaDoorElemOps
namespace Go.Proofs.YtmceahknglkhoaaDoor
open Go.RowKit
set_option linter.unusedVariables false

/-- A difference. -/
def MinusIs (a b : Nat) (w : World) (e : Ending) (w' : World) : Prop := ∃ l, e = .returned (N5 l) ∧ Ok5 l ∧ (lval l + b) % PP = a % PP ∧ w.grownBy w' none
theorem minusL_length (a b : List Nat) : (minusL a b).length = 5 := by simp [minusL]
theorem minusL_at (a b : List Nat) (i : Nat) (h : i < (minusL a b).length) (h1 : i < a.length) (h2 : i < b.length) : (minusL a b)[i] = a[i] + 9007199254740988 - b[i] - (if i = 0 then 72 else 0) := by
  simp only [minusL, List.getElem_map, List.getElem_range]
  rw [List.getD_eq_getElem?_getD, List.getElem?_eq_getElem h1, List.getD_eq_getElem?_getD, List.getElem?_eq_getElem h2]
  rfl

theorem NB.drew {w : World} {B : Nat} {l : List Nat} (h : NB w B l) : NB w.drew B l := h

set_option maxRecDepth 20000 in
set_option maxHeartbeats 2000000 in
theorem code_nminus (w : World) (a b : List Nat) (ha : Ok5 a) (hb : Ok5 b) :
    Calls Tryd.prog 41 #[N5 a, N5 b] w (MinusIs (lval a) (lval b) w) := by
  obtain ⟨B, hB⟩ : ∃ B, B = w.heap.size := ⟨_, rfl⟩
  obtain ⟨x, hx⟩ : ∃ x, x = ((w.alloc (.cells (a.map c64).toArray 64)).alloc (.cells (b.map c64).toArray 64)).alloc (.cells #[.int .u64 0, .int .u64 0, .int .u64 0, .int .u64 0, .int .u64 0] 64) := ⟨_, rfl⟩
  have s1 : (w.alloc (.cells (a.map c64).toArray 64)).heap.size = B + 1 := by rw [hB]; simp
  have s2 : ((w.alloc (.cells (a.map c64).toArray 64)).alloc (.cells (b.map c64).toArray 64)).heap.size = B + 1 + 1 := by rw [hB]; simp
  have bA : NB x B a := by rw [hx, hB]; exact obj_alloc (obj_alloc (obj_new w _))
  have bB : NB x (B + 1) b := by rw [hx, ← s1]; exact obj_alloc (obj_new _ _)
  have bR : NB x (B + 1 + 1) [0, 0, 0, 0, 0] := by rw [hx, ← s2]; exact obj_new _ _
  have hgx : w.grownBy x none := by rw [hx]; exact grow_alloc (grow_alloc (grow_alloc (grow_refl w none) _) _) _
  have la := ha.length
  have lb := hb.length
  have lX : (minusL a b).length = a.length := by rw [minusL_length, la]
  have hXle : ∀ x ∈ minusL a b, x ≤ 9223372036854775808 := by
    intro z hz
    obtain ⟨i, hi, rfl⟩ := List.getElem_of_mem hz
    rw [minusL_at a b i hi (by omega) (by omega)]
    have h1 := ha.le _ (List.getElem_mem (show i < a.length by omega))
    omega
  have hval : lval (minusL a b) + lval b = lval a + 4 * PP := by
    obtain ⟨a0, a1, a2, a3, a4, rfl⟩ := five la
    obtain ⟨b0, b1, b2, b3, b4, rfl⟩ := five lb
    have hh := hb.le
    simp only [List.mem_cons, List.not_mem_nil, or_false, forall_eq_or_imp, forall_eq] at hh
    exact minusL_val a0 a1 a2 a3 a4 b0 b1 b2 b3 b4 hh.1 hh.2.1 hh.2.2.1 hh.2.2.2.1 hh.2.2.2.2
  have HC : ∀ W : World, Calls Tryd.prog 52 #[N5 (minusL a b)] W (Grown (N5 (carL (minusL a b))) W) := fun W => code_ncarried W _ (by omega) hXle
  have hok := carL_ok (minusL a b) (by omega) hXle
  have hcv : (lval (carL (minusL a b)) + lval b) % PP = lval a % PP := by
    have h1 := carL_val (minusL a b) (by omega)
    have e1 : (lval (carL (minusL a b)) + lval b) % PP = (lval (minusL a b) + lval b) % PP := by rw [Nat.add_mod, h1, ← Nat.add_mod]
    rw [e1, hval, Nat.mul_comm 4, Nat.add_mul_mod_self_left]
  have HRES := Lib.hid (And.intro hok hcv)
  have HA := Lib.hid bA
  have HBB := Lib.hid bB
  have HR := Lib.hid bR
  have HG := Lib.hid hgx
  have HB := Lib.hid hB
  have HX := Lib.hid hx
  have HLA := Lib.hid la
  have HLB := Lib.hid lb
  have HLX := Lib.hid lX
  have HAL := Lib.hid ha.le
  have HBL := Lib.hid hb.le
  clear hok hcv hval hXle bA bB bR hgx hB hx s1 s2 la lb lX ha hb
  unfold N5
  go_enter Tryd.func41, Tryd.ntmps41
  go_wp2_with fail
  rw [← HB.out, ← HX.out]
  go_loopw [5, 6] (fun v5 vi wr => ∃ i : Nat, i ≤ 5 ∧ vi = .int .i64 i ∧ Hid (NB wr B ((minusL a b).take i ++ a.drop i)) ∧ Hid (x.grownBy wr (some B))) (fun _ vi _ => 5 - (intOf vi).toNat)
  case atStart => exact ⟨0, by omega, rfl, Lib.hid (by rw [List.take_zero, List.nil_append, List.drop_zero]; exact HA.out), Lib.hid (grow_refl _ _)⟩
  case round =>
    clear HA HX
    obtain ⟨i, hi, rfl, hK, hg⟩ := hrel
    by_cases hli : i < 5
    · have hia : i < a.length := by rw [HLA.out]; exact hli
      have hib : i < b.length := by rw [HLB.out]; exact hli
      have ca := hK.out.cell i (by rw [part_len _ _ _ HLX.out (by omega)]; exact hia)
      rw [part_at _ _ _ HLX.out hia] at ca
      have fa := hK.out.frozen i
      have bB : NB wr (B + 1) b := Blk.kept HBB.out hg.out (by simp)
      have cb := bB.cell i hib
      have k1 := HAL.out a[i] (List.getElem_mem hia)
      have k2 := HBL.out b[i] (List.getElem_mem hib)
      have e := minusL_at a b i (by rw [HLX.out]; exact hia) hia hib
      have hst := hK.out.set i ((minusL a b)[i]'(by rw [HLX.out]; exact hia))
      have hst2 : NB (wr.setCell ⟨B, i, none⟩ (.int .u64 (((minusL a b)[i]'(by rw [HLX.out]; exact hia) : Nat) : Int))) B ((minusL a b).take (i + 1) ++ a.drop (i + 1)) := by
        rw [← part_set' _ _ _ HLX.out hia]; exact hst
      have hst3 := (hK.out.set i (a[i] + 9007199254740988 - b[i])).set i ((minusL a b)[i]'(by rw [HLX.out]; exact hia))
      have hst4 : NB ((wr.setCell ⟨B, i, none⟩ (.int .u64 ((a[i] + 9007199254740988 - b[i] : Nat) : Int))).setCell ⟨B, i, none⟩ (.int .u64 (((minusL a b)[i]'(by rw [HLX.out]; exact hia) : Nat) : Int))) B ((minusL a b).take (i + 1) ++ a.drop (i + 1)) := by
        rw [List.set_set] at hst3
        rw [← part_set' _ _ _ HLX.out hia]; exact hst3
      have hgs := fun v : Value => grow_setCell hg.out i v
      rw [e] at hst2 hst4
      clear hst hst3 e
      generalize a[i] = p at *
      generalize b[i] = q at *
      have HS1 := Lib.hid hst2
      have HS4 := Lib.hid hst4
      have HS2 := Lib.hid hgs
      have i0 : (0 : Int) ≤ (i : Int) := by omega
      have i1 : (i : Int) < 5 := by omega
      have q9 : (q : Int) ≤ 9007199254740988 := by omega
      have w0 : IntKind.u64.wrap (9007199254740988 - (q : Int)) = 9007199254740988 - (q : Int) := IntWalk.u64_in _ (by omega)
      have w1 : IntKind.u64.wrap ((p : Int) + (9007199254740988 - (q : Int))) = (p : Int) + (9007199254740988 - (q : Int)) := IntWalk.u64_in _ (by omega)
      clear hst2 hst4 hgs bB hK hg hia hib
      by_cases hi0 : i = 0
      · subst hi0
        have e0 : ((0 : Nat) : Int) = 0 := rfl
        rw [e0] at *
        go_wp2_with fail
        go_still_tail 9, (by kernel_rfl)
        change wpList _ _ _ _ _ wr.drew
        go_wp2_with fail
        go_roundw
        case rel =>
          have v1 : (p : Int) + (9007199254740988 - (q : Int)) = ((p + 9007199254740988 - q : Nat) : Int) := by omega
          have v2 : (p : Int) + (9007199254740988 - (q : Int)) - 72 = ((p + 9007199254740988 - q - 72 : Nat) : Int) := by omega
          rw [v2, v1]
          have h4 := HS4.out
          rw [if_pos trivial, Nat.zero_add] at h4
          exact ⟨1, by omega, rfl, Lib.hid (NB.drew h4), Lib.hid (grow_drew (grow_setCell (HS2.out _) 0 _))⟩
        case measure => simp [intOf]
      · have q0 : ((i : Int) == 0) = false := by simp; omega
        have hi1 : Hid ((if i = 0 then 72 else 0) = 0) := Lib.hid (if_neg hi0)
        clear hi0
        go_wp2_with fail
        go_still_tail 9, (by kernel_rfl)
        change wpList _ _ _ _ _ wr.drew
        go_wp2_with fail
        go_roundw
        case rel =>
          have v1 : (p : Int) + (9007199254740988 - (q : Int)) = ((p + 9007199254740988 - q : Nat) : Int) := by omega
          rw [v1]
          have h1 := HS1.out
          rw [hi1.out, Nat.sub_zero] at h1
          exact ⟨i + 1, by omega, by go_num, Lib.hid (NB.drew h1), Lib.hid (grow_drew (HS2.out _))⟩
        case measure => simp [intOf]; omega
    · obtain rfl : i = 5 := by omega
      have hK2 := hK.out
      rw [List.take_of_length_le (by rw [HLX.out, HLA.out]; omega), List.drop_of_length_le (by rw [HLA.out]; omega), List.append_nil] at hK2
      obtain ⟨s0, s1, s2, s3, s4, h5⟩ := five (HLX.out.trans HLA.out)
      rw [h5] at hK2 HC
      obtain ⟨r0, r1, r2, r3, r4, h6⟩ := five (HRES.out.1.length)
      rw [← h5, h6, h5, N5_lit, N5_lit] at HC
      obtain ⟨⟨k0, k1, k2, k3, k4⟩, _⟩ := hK2.five
      have bR : NB wr (B + 1 + 1) [0, 0, 0, 0, 0] := Blk.kept HR.out hg.out (by simp; omega)
      have HR2 := Lib.hid bR
      have HG2 := Lib.hid (grow_trans_new HG.out hg.out (by have := HB.out; omega))
      have HRR := Lib.hid h6
      have HC' := HC
      clear h5 h6 hK2 bR hK hg HC
      go_wp2_with fail
      (with_reducible refine (HC' _).mono ?_)
      rintro e w2 ⟨rfl, hg2⟩
      have bR3 : NB w2 (B + 1 + 1) [0, 0, 0, 0, 0] := Blk.kept HR2.out hg2 nofun
      obtain ⟨⟨z0, z1, z2, z3, z4⟩, f0, f1, f2, f3, f4⟩ := bR3.five
      have hfin := Lib.hid (grow5 (B := B + 1 + 1) (grow_trans HG2.out hg2) (by have := HB.out; omega) (.int .u64 (r0 : Int)) (.int .u64 (r1 : Int)) (.int .u64 (r2 : Int)) (.int .u64 (r3 : Int)) (.int .u64 (r4 : Int)))
      clear k0 k1 k2 k3 k4 bR3 hg2 HC'
      go_wp2_with fail
      refine bodyPost_ret (v := .agg #[.int .u64 (r0 : Int), .int .u64 (r1 : Int), .int .u64 (r2 : Int), .int .u64 (r3 : Int), .int .u64 (r4 : Int)]) (by simp [results, Tryd.results41, go_sem, z0, z1, z2, z3, z4]) rfl ?_
      exact ⟨carL (minusL a b), by rw [HRR.out]; rfl, HRES.out.1, HRES.out.2, hfin.out⟩

end Go.Proofs.YtmceahknglkhoaaDoor
