/- Numbers modulo 2^255 - 19: read. -/
import Derived.Test.YtmomfbkpniblgaaGreatDoorDgElemTimes
import Derived.Test.YtmomfbkpniblgaaGreatDoorDg07
namespace Go.Proofs.YtmomfbkpniblgaaGreatDoor
open Go.RowKit
set_option linter.unusedVariables false

theorem shl_or (u v k : Nat) (hu : u < 18446744073709551616) (hv : v < 18446744073709551616) (p q : Nat) (hk : p < 18446744073709551616) :
    bits .or .u64 (u : Int) (IntKind.u64.wrap ((v : Int) * (p : Int))) = ((u ||| v * p % 18446744073709551616 : Nat) : Int) := by
  have h1 : IntKind.u64.wrap ((v : Int) * (p : Int)) = ((v * p % 18446744073709551616 : Nat) : Int) := by rw [IntKind.wrap_u64, Int.natCast_emod, Int.natCast_mul]; rfl
  rw [h1, u64_or_nat _ _ hu (Nat.mod_lt _ (by omega))]

/-- The words that 32 bytes are read into. -/
def word (s : List UInt8) (i : Nat) : Nat := leN ((s.drop (8 * i)).take 8)
theorem word_lt (s : List UInt8) (i : Nat) : word s i < 18446744073709551616 := leN_lt8 _ (by rw [List.length_take]; omega)
theorem word_sum (s : List UInt8) (h : s.length = 32) : leN s = word s 0 + 18446744073709551616 * (word s 1 + 18446744073709551616 * (word s 2 + 18446744073709551616 * word s 3)) := by
  have step : ∀ (l : List UInt8), 8 ≤ l.length → leN l = leN (l.take 8) + 18446744073709551616 * leN (l.drop 8) := fun l hl => by
    conv => lhs; rw [← List.take_append_drop 8 l]
    rw [leN_append, List.length_take, Nat.min_eq_left hl]
  unfold word
  rw [step s (by omega), step (s.drop 8) (by rw [List.length_drop]; omega), List.drop_drop, step (s.drop (8 + 8)) (by rw [List.length_drop]; omega), List.drop_drop]
  simp only [Nat.mul_zero, List.drop_zero, Nat.mul_one, Nat.reduceMul, Nat.reduceAdd]
  rw [List.take_of_length_le (l := s.drop 24) (by rw [List.length_drop]; omega)]

/-- A block of words. -/
def KB (w : World) (B : Nat) (t : TypeId) (l : List Nat) : Prop := Blk w B t (l.map c64)
theorem KB.cell {w : World} {B : Nat} {t : TypeId} {l : List Nat} (h : KB w B t l) (i : Nat) (hi : i < l.length) : w.cell? ⟨B, i, none⟩ = some (.int .u64 (l[i] : Nat)) := by
  rw [Blk.cell h]
  simp [c64, hi]
theorem KB.set {w : World} {B : Nat} {t : TypeId} {l : List Nat} (h : KB w B t l) (i n : Nat) : KB (w.setCell ⟨B, i, none⟩ (.int .u64 (n : Int))) B t (l.set i n) := by
  have := Blk.set h i (c64 n)
  unfold KB
  rw [List.map_set]
  exact this

/-- The words so far. -/
def wdI (s : List UInt8) (i : Nat) : List Nat := (List.range 4).map fun j => if j < i then word s j else 0
theorem wdI_length (s : List UInt8) (i : Nat) : (wdI s i).length = 4 := by simp [wdI]
theorem wdI_next (s : List UInt8) (i : Nat) (hi : i < 4) : (wdI s i).set i (word s i) = wdI s (i + 1) := by
  match i, hi with
  | 0, _ => rfl
  | 1, _ => rfl
  | 2, _ => rfl
  | 3, _ => rfl

def ReadIs (s : List UInt8) (w : World) (e : Ending) (w' : World) : Prop := ∃ l, e = .returned (.tuple #[N5 l, .bool true]) ∧ Ok5 l ∧ lval l % PP = leN s % PP ∧ w.grownBy w' none

set_option maxRecDepth 20000 in
set_option maxHeartbeats 4000000 in
theorem code_nread (w : World) (s : List UInt8) (hs : s.length = 32) : Calls Tryz.prog 138 #[S s] w (ReadIs s w) := by
  obtain ⟨B, hB⟩ : ∃ B, B = w.heap.size := ⟨_, rfl⟩
  obtain ⟨x, hx⟩ : ∃ x, x = (w.alloc (.cells #[.int .u64 0, .int .u64 0, .int .u64 0, .int .u64 0, .int .u64 0] 144)).alloc (.cells #[.int .u64 0, .int .u64 0, .int .u64 0, .int .u64 0] 282) := ⟨_, rfl⟩
  have s1 : (w.alloc (.cells #[.int .u64 0, .int .u64 0, .int .u64 0, .int .u64 0, .int .u64 0] 144)).heap.size = B + 1 := by rw [hB]; simp
  have bR : NB x B [0, 0, 0, 0, 0] := by rw [hx, hB]; exact obj_alloc (obj_new _ _)
  have bW : KB x (B + 1) 282 (wdI s 0) := by rw [hx, ← s1]; exact obj_new _ _
  have hgx : w.grownBy x none := by rw [hx]; exact grow_alloc (grow_alloc (grow_refl w none) _) _
  have hsi : (s.length : Int) = 32 := by omega
  have HR := Lib.hid bR
  have HW := Lib.hid bW
  have HG := Lib.hid hgx
  have HB := Lib.hid hB
  have HX := Lib.hid hx
  have HS := Lib.hid hs
  clear bR bW hgx hB hx hs s1
  unfold S
  go_enter Tryz.func138, Tryz.ntmps138
  go_upto_region 4 with (fail)
  rw [← HB.out, ← HX.out]
  go_wp2_with fail
  go_loopw [5, 11] (fun v5 vi wr => ∃ i : Nat, i ≤ 4 ∧ vi = .int .i64 i ∧ Hid (KB wr (B + 1) 282 (wdI s i)) ∧ Hid (x.grownBy wr (some (B + 1)))) (fun _ vi _ => 4 - (intOf vi).toNat)
  case atStart => exact ⟨0, by omega, rfl, HW, Lib.hid (grow_refl _ _)⟩
  case round =>
    clear HW
    obtain ⟨i, hi, rfl, hW, hg⟩ := hrel
    by_cases hli : i < 4
    · obtain ⟨z, cz⟩ : ∃ z : Nat, wr.cell? ⟨B + 1, i, none⟩ = some (.int .u64 (z : Int)) := ⟨_, hW.out.cell i (by rw [wdI_length]; exact hli)⟩
      have fz := Blk.frozen hW.out i
      have hst := hW.out.set i (word s i)
      rw [wdI_next s i hli] at hst
      have HST := Lib.hid hst
      have HGS := Lib.hid (grow_setCell hg.out i (.int .u64 (word s i : Nat)))
      have i0 : (0 : Int) ≤ (i : Int) := by omega
      have i1 : (i : Int) < 4 := by omega
      have b1 : (8 : Int) * (i : Int) ≤ (s.length : Int) := by omega
      clear hst hW hg
      have hx8 : ({ data := s.toArray } : ByteArray).extract (8 * i) s.length = ⟨(s.drop (8 * i)).toArray⟩ := by
        rw [rule_ext]
        congr 2
        rw [List.take_of_length_le (by rw [List.length_drop]; omega)]
      have RL : ∀ W : World, Calls Tryz.prog 92 #[.string (({ data := s.toArray } : ByteArray).extract (8 * i) s.length)] W (fun e w' => e = .returned (.int .u64 (word s i : Nat)) ∧ W = w') := fun W => by
        rw [hx8]
        exact wire_little W (s.drop (8 * i)) (by have := HS.out; rw [List.length_drop]; omega)
      clear hx8
      generalize word s i = wi at *
      go_wp2_with fail
      (with_reducible refine (RL _).mono ?_)
      rintro e w2 ⟨rfl, rfl⟩
      go_wp2_with fail
      all_goals go_roundw
      all_goals first
        | exact ⟨i + 1, by omega, by go_num, HST, HGS⟩
        | (simp [intOf]; omega)
    · obtain rfl : i = 4 := by omega
      have k0 := word_lt s 0
      have k1 := word_lt s 1
      have k2 := word_lt s 2
      have k3 := word_lt s 3
      have hval := rdL_val (word s 0) (word s 1) (word s 2) (word s 3) k0 k1 k2 k3
      rw [← word_sum s HS.out] at hval
      obtain ⟨g1, g2⟩ := hval
      have hW2 : KB wr (B + 1) 282 [word s 0, word s 1, word s 2, word s 3] := hW.out
      generalize word s 0 = w0 at *
      generalize word s 1 = w1 at *
      generalize word s 2 = w2 at *
      generalize word s 3 = w3 at *
      have c0 := hW2.cell 0 (by simp)
      have c1 := hW2.cell 1 (by simp)
      have c2 := hW2.cell 2 (by simp)
      have c3 := hW2.cell 3 (by simp)
      simp only [List.getElem_cons_zero, List.getElem_cons_succ] at c0 c1 c2 c3
      obtain ⟨o1, ho1⟩ : ∃ o1, o1 = w0 / 2251799813685248 ||| w1 * 8192 % 18446744073709551616 := ⟨_, rfl⟩
      obtain ⟨o2, ho2⟩ : ∃ o2, o2 = w1 / 274877906944 ||| w2 * 67108864 % 18446744073709551616 := ⟨_, rfl⟩
      obtain ⟨o3, ho3⟩ : ∃ o3, o3 = w2 / 33554432 ||| w3 * 549755813888 % 18446744073709551616 := ⟨_, rfl⟩
      have lo1 : o1 < 18446744073709551616 := by rw [ho1]; exact Nat.or_lt_two_pow (n := 64) (by omega) (by omega)
      have lo2 : o2 < 18446744073709551616 := by rw [ho2]; exact Nat.or_lt_two_pow (n := 64) (by omega) (by omega)
      have lo3 : o3 < 18446744073709551616 := by rw [ho3]; exact Nat.or_lt_two_pow (n := 64) (by omega) (by omega)
      have q1 : bits .or .u64 ((w0 : Int) / 2251799813685248) (IntKind.u64.wrap ((w1 : Int) * 8192)) = (o1 : Int) := by rw [ho1]; exact shl_or (w0 / 2251799813685248) w1 0 (by omega) k1 8192 0 (by omega)
      have q2 : bits .or .u64 ((w1 : Int) / 274877906944) (IntKind.u64.wrap ((w2 : Int) * 67108864)) = (o2 : Int) := by rw [ho2]; exact shl_or (w1 / 274877906944) w2 0 (by omega) k2 67108864 0 (by omega)
      have q3 : bits .or .u64 ((w2 : Int) / 33554432) (IntKind.u64.wrap ((w3 : Int) * 549755813888)) = (o3 : Int) := by rw [ho3]; exact shl_or (w2 / 33554432) w3 0 (by omega) k3 549755813888 0 (by omega)
      obtain ⟨a0, ha0⟩ : ∃ a0, a0 = w0 % 2251799813685248 := ⟨_, rfl⟩
      obtain ⟨a1, ha1⟩ : ∃ a1, a1 = o1 % 2251799813685248 := ⟨_, rfl⟩
      obtain ⟨a2, ha2⟩ : ∃ a2, a2 = o2 % 2251799813685248 := ⟨_, rfl⟩
      obtain ⟨a3, ha3⟩ : ∃ a3, a3 = o3 % 2251799813685248 := ⟨_, rfl⟩
      obtain ⟨a4, ha4⟩ : ∃ a4, a4 = w3 / 4096 % 2251799813685248 := ⟨_, rfl⟩
      obtain ⟨t, ht⟩ : ∃ t, t = w3 / 9223372036854775808 := ⟨_, rfl⟩
      have m0 : bits .and .u64 (w0 : Int) 2251799813685247 = (a0 : Int) := by rw [mask51 w0 k0, ha0]
      have m1 : bits .and .u64 (o1 : Int) 2251799813685247 = (a1 : Int) := by rw [mask51 o1 lo1, ha1]
      have m2 : bits .and .u64 (o2 : Int) 2251799813685247 = (a2 : Int) := by rw [mask51 o2 lo2, ha2]
      have m3 : bits .and .u64 (o3 : Int) 2251799813685247 = (a3 : Int) := by rw [mask51 o3 lo3, ha3]
      have m4 : bits .and .u64 ((w3 : Int) / 4096) 2251799813685247 = (a4 : Int) := by rw [ha4]; exact mask51 (w3 / 4096) (by omega)
      have mt : (w3 : Int) / 9223372036854775808 = (t : Int) := by rw [ht]; rfl
      have hL : rdL w0 w1 w2 w3 = [a0 + 19 * t, a1, a2, a3, a4] := by
        unfold rdL rd1 rd2 rd3
        rw [← ho1, ← ho2, ← ho3, ← ha0, ← ha1, ← ha2, ← ha3, ← ha4, ← ht]
      rw [hL] at g1 g2
      have la : a0 < 2251799813685248 := by omega
      have lt' : t ≤ 1 := by omega
      obtain ⟨a0', ha0'⟩ : ∃ a0', a0' = a0 + 19 * t := ⟨_, rfl⟩
      have ha0i : (a0 : Int) + 19 * (t : Int) = (a0' : Int) := by rw [ha0']; simp
      rw [← ha0'] at g1 g2
      have HC : ∀ V : World, Calls Tryz.prog 140 #[N5 [a0', a1, a2, a3, a4]] V (Grown (N5 (carL [a0', a1, a2, a3, a4])) V) := fun V => code_ncarried V _ rfl g2
      have hok := carL_ok [a0', a1, a2, a3, a4] rfl g2
      have hcv := carL_val [a0', a1, a2, a3, a4] rfl
      rw [g1] at hcv
      obtain ⟨r0, r1, r2, r3, r4, h6⟩ := five hok.length
      rw [h6, N5_lit, N5_lit] at HC
      have HRES := Lib.hid (And.intro (h6 ▸ hok) (h6 ▸ hcv))
      have bR : NB wr B [0, 0, 0, 0, 0] := Blk.kept HR.out hg.out (by simp)
      have HRR := Lib.hid bR
      have HGG := Lib.hid (grow_trans_new HG.out hg.out (by have := HB.out; omega))
      have HC' := HC
      obtain ⟨N, hN⟩ : ∃ N, N = wr.heap.size := ⟨_, rfl⟩
      obtain ⟨y, hy⟩ : ∃ y, y = wr.alloc (.cells #[.int .u64 (a0 : Int), .int .u64 (a1 : Int), .int .u64 (a2 : Int), .int .u64 (a3 : Int), .int .u64 (a4 : Int)] 144) := ⟨_, rfl⟩
      have hBN : B < N := by rw [hN]; exact Blk.lt bR
      have bN : NB y N [a0, a1, a2, a3, a4] := by rw [hy, hN]; exact obj_new _ _
      have hWy : KB y (B + 1) 282 [w0, w1, w2, w3] := by rw [hy]; exact obj_alloc hW2
      have d3 := hWy.cell 3 (by simp)
      simp only [List.getElem_cons_zero, List.getElem_cons_succ] at d3
      have n0 := bN.cell 0 (by simp)
      have fn := bN.frozen 0
      have hst := bN.set 0 a0'
      have bRy : NB y B [0, 0, 0, 0, 0] := by rw [hy]; exact obj_alloc bR
      obtain ⟨y2, hy2⟩ : ∃ y2, y2 = y.setCell ⟨N, 0, none⟩ (.int .u64 (a0' : Int)) := ⟨_, rfl⟩
      rw [← hy2] at hst
      have hst' : NB y2 N [a0', a1, a2, a3, a4] := hst
      have gy : y.grownBy y2 (some N) := by rw [hy2]; exact grow_setCell (grow_refl _ _) _ _
      have bR2 : NB y2 B [0, 0, 0, 0, 0] := Blk.kept bRy gy (by simp; omega)
      have HR2 := Lib.hid bR2
      obtain ⟨⟨e0, e1, e2, e3, e4⟩, _⟩ := hst'.five
      have HGF := Lib.hid (grow_trans_new (grow_alloc HGG.out (.cells #[.int .u64 (a0 : Int), .int .u64 (a1 : Int), .int .u64 (a2 : Int), .int .u64 (a3 : Int), .int .u64 (a4 : Int)] 144)) (hy ▸ gy) (by have := HB.out; omega))
      have HN := Lib.hid hN
      have HY := Lib.hid hy
      have HY2 := Lib.hid hy2
      clear hN hy hBN bN hWy hst bRy hy2 hst' gy bR2
      clear HC hok hcv h6 ho1 ho2 ho3 ha0 ha1 ha2 ha3 ha4 ht hL g1 g2 ha0' hW hW2 hg bR lo1 lo2 lo3
      go_upto_region 10 with (fail)
      rw [← HN.out, ← HY.out]
      clear c0 c1 c2 c3
      go_upto_region 11 with (fail)
      rw [← HY2.out]
      clear n0 fn d3
      go_wp2_with fail
      (with_reducible refine (HC' _).mono ?_)
      rintro e w2 ⟨rfl, hg2⟩
      have bR3 : NB w2 B [0, 0, 0, 0, 0] := Blk.kept HR2.out hg2 nofun
      obtain ⟨⟨z0, z1, z2, z3, z4⟩, f0, f1, f2, f3, f4⟩ := bR3.five
      have hfin := Lib.hid (grow5 (B := B) (grow_trans HGF.out hg2) (by have := HB.out; omega) (.int .u64 (r0 : Int)) (.int .u64 (r1 : Int)) (.int .u64 (r2 : Int)) (.int .u64 (r3 : Int)) (.int .u64 (r4 : Int)))
      clear e0 e1 e2 e3 e4 bR3 hg2 HC'
      go_wp2_with fail
      refine bodyPost_ret (v := .tuple #[.agg #[.int .u64 (r0 : Int), .int .u64 (r1 : Int), .int .u64 (r2 : Int), .int .u64 (r3 : Int), .int .u64 (r4 : Int)], .bool true]) (by simp [results, Tryz.results138, go_sem, z0, z1, z2, z3, z4]) rfl ?_
      exact ⟨[r0, r1, r2, r3, r4], rfl, HRES.out.1, HRES.out.2, hfin.out⟩

end Go.Proofs.YtmomfbkpniblgaaGreatDoor
