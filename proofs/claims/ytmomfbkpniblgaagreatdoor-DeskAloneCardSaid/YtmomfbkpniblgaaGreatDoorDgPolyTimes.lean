/- Poly1305: the product. The steps are written by wip/gen/ptimes.py. -/
import Derived.Test.YtmomfbkpniblgaaGreatDoorDg07
namespace Go.Proofs.YtmomfbkpniblgaaGreatDoor
open Go.RowKit
set_option linter.unusedVariables false

theorem add64_eq (x y c : Nat) (hc : c ≤ 1) (hx : x < 18446744073709551616) (hy : y < 18446744073709551616) : ∃ s d : Nat, s + 18446744073709551616 * d = x + y + c ∧ s < 18446744073709551616 ∧ d ≤ 1 ∧
    ∀ w : World, (callFunc 142 #[.int .u64 x, .int .u64 y, .int .u64 c]).run Tryz.prog w = .ok (.value (.tuple #[.int .u64 (s : Int), .int .u64 (d : Int)])) w :=
  ⟨_, _, by omega, Nat.mod_lt _ (by omega), by omega, fun w => add64_run x y c hc w⟩

theorem mul64_named (x y : Nat) (hx : x < 18446744073709551616) (hy : y < 18446744073709551616) : ∃ h l : Nat, l + 18446744073709551616 * h = x * y ∧ h < 18446744073709551616 ∧ l < 18446744073709551616 ∧
    ∀ w : World, Calls Tryz.prog 147 #[.int .u64 (x : Int), .int .u64 (y : Int)] w fun e w' => e = .returned (.tuple #[.int .u64 (h : Int), .int .u64 (l : Int)]) ∧ w' = w :=
  ⟨_, _, Nat.mod_add_div (x * y) 18446744073709551616, by
    rw [Nat.div_lt_iff_lt_mul (by omega)]
    exact Nat.mul_lt_mul_of_lt_of_lt hx hy, Nat.mod_lt _ (by omega), fun w => Tryz.bits_Mul64 x y hx hy w⟩

theorem cell_al {w : World} {p : Addr} {v : Value} (o : Obj) (h : w.cell? p = some v) : (w.alloc o).cell? p = some v := by
  have hb := World.block_lt_of_cell? w _ h
  rw [World.cell?_alloc_lt _ _ _ hb]
  exact h

theorem one_mod {d : Nat} (h : d ≤ 1) : (d : Int) % 18446744073709551616 = (d : Int) := by omega
theorem one_wrap {d : Nat} (h : d ≤ 1) : IntKind.u64.wrap (d : Int) = (d : Int) := IntWalk.u64_in _ (by omega)
theorem two_mod {z d : Nat} (hz : z ≤ 1) (h : d ≤ 1) : ∃ u : Nat, u = z + d ∧ u < 18446744073709551616 ∧ ((z : Int) + (d : Int)) % 18446744073709551616 = (u : Int) ∧ IntKind.u64.wrap ((z : Int) + (d : Int)) = (u : Int) := ⟨_, rfl, by omega, by omega, by rw [IntWalk.u64_in _ (by omega)]; omega⟩

theorem idxN0 (w : World) (a b c : Int) : (Instr.index 150 (.agg #[.int .u64 a, .int .u64 b, .int .u64 c]) (.int .i64 0)).run Tryz.prog w = .ok (.int .u64 a) w := by kernel_rfl
theorem idxN1 (w : World) (a b c : Int) : (Instr.index 150 (.agg #[.int .u64 a, .int .u64 b, .int .u64 c]) (.int .i64 1)).run Tryz.prog w = .ok (.int .u64 b) w := by kernel_rfl
theorem idxN2 (w : World) (a b c : Int) : (Instr.index 150 (.agg #[.int .u64 a, .int .u64 b, .int .u64 c]) (.int .i64 2)).run Tryz.prog w = .ok (.int .u64 c) w := by kernel_rfl
theorem idxR0 (w : World) (a b : Int) : (Instr.index 148 (.agg #[.int .u64 a, .int .u64 b]) (.int .i64 0)).run Tryz.prog w = .ok (.int .u64 a) w := by kernel_rfl
theorem idxR1 (w : World) (a b : Int) : (Instr.index 148 (.agg #[.int .u64 a, .int .u64 b]) (.int .i64 1)).run Tryz.prog w = .ok (.int .u64 b) w := by kernel_rfl

theorem poly_total (a0 a1 a2 b0 b1 h00 l00 s00 c00 t00 d00 h01 l01 s01 c01 t01 d01 h10 l10 s10 c10 t10 d10 u10 h11 l11 s11 c11 t11 d11 h20 l20 s20 c20 t20 d20 u20 h21 l21 s21 c21 t21 d21 : Nat)
  (m00 : l00 + 18446744073709551616 * h00 = a0 * b0) (m01 : l01 + 18446744073709551616 * h01 = a0 * b1) (m10 : l10 + 18446744073709551616 * h10 = a1 * b0) (m11 : l11 + 18446744073709551616 * h11 = a1 * b1) (m20 : l20 + 18446744073709551616 * h20 = a2 * b0) (m21 : l21 + 18446744073709551616 * h21 = a2 * b1)
  (es00 : s00 + 18446744073709551616 * c00 = 0 + l00 + 0) (et00 : t00 + 18446744073709551616 * d00 = 0 + h00 + c00)
  (es01 : s01 + 18446744073709551616 * c01 = t00 + l01 + 0) (et01 : t01 + 18446744073709551616 * d01 = d00 + h01 + c01)
  (es10 : s10 + 18446744073709551616 * c10 = s01 + l10 + 0) (et10 : t10 + 18446744073709551616 * d10 = t01 + h10 + c10) (eu10 : u10 = d01 + d10)
  (es11 : s11 + 18446744073709551616 * c11 = t10 + l11 + 0) (et11 : t11 + 18446744073709551616 * d11 = u10 + h11 + c11)
  (es20 : s20 + 18446744073709551616 * c20 = s11 + l20 + 0) (et20 : t20 + 18446744073709551616 * d20 = t11 + h20 + c20) (eu20 : u20 = d11 + d20)
  (es21 : s21 + 18446744073709551616 * c21 = t20 + l21 + 0) (et21 : t21 + 18446744073709551616 * d21 = u20 + h21 + c21) :
  s00 + 18446744073709551616 * s10 + 340282366920938463463374607431768211456 * s20 + 6277101735386680763835789423207666416102355444464034512896 * s21 + 115792089237316195423570985008687907853269984665640564039457584007913129639936 * t21 + 2135987035920910082395021706169552114602704522356652769947041607822219725780640550022962086936576 * d21
   = (a0 + 18446744073709551616 * a1 + 340282366920938463463374607431768211456 * a2) * (b0 + 18446744073709551616 * b1) := by
  have e : (a0 + 18446744073709551616 * a1 + 340282366920938463463374607431768211456 * a2) * (b0 + 18446744073709551616 * b1) = a0 * b0 + 18446744073709551616 * (a0 * b1 + a1 * b0) + 340282366920938463463374607431768211456 * (a1 * b1 + a2 * b0) + 6277101735386680763835789423207666416102355444464034512896 * (a2 * b1) := by grind
  rw [e, ← m00, ← m01, ← m10, ← m11, ← m20, ← m21]
  clear e m00 m01 m10 m11 m20 m21
  omega
theorem prod_lt (x r : Nat) (hx : x < 6277101735386680763835789423207666416102355444464034512896) (hr : r < 340282366920938463463374607431768211456) : x * r < 2135987035920910082395021706169552114602704522356652769947041607822219725780640550022962086936576 :=
  Nat.mul_lt_mul_of_lt_of_lt hx hr
theorem split130 (T s00 s10 s20 s21 t21 : Nat) (h0 : s00 < 18446744073709551616) (h1 : s10 < 18446744073709551616) (h2 : s20 < 18446744073709551616) (h3 : s21 < 18446744073709551616)
   (hT : s00 + 18446744073709551616 * s10 + 340282366920938463463374607431768211456 * s20 + 6277101735386680763835789423207666416102355444464034512896 * s21 + 115792089237316195423570985008687907853269984665640564039457584007913129639936 * t21 = T) :
   T % 1361129467683753853853498429727072845824 = s00 + 18446744073709551616 * s10 + 340282366920938463463374607431768211456 * (s20 % 4) ∧
   T / 1361129467683753853853498429727072845824 = (s20 / 4 + s21 % 4 * 4611686018427387904) + 18446744073709551616 * (s21 / 4 + t21 % 4 * 4611686018427387904) + 340282366920938463463374607431768211456 * (t21 / 4) := by
  omega

theorem or_hi (a b : Nat) (ha : a < 18446744073709551616) (hb : b < 18446744073709551616) : bits .or .u64 ((a : Int) / 4) (IntKind.u64.wrap ((b : Int) * 4611686018427387904)) = ((a / 4 + b % 4 * 4611686018427387904 : Nat) : Int) := by
  have e1 : IntKind.u64.wrap ((b : Int) * 4611686018427387904) = ((b % 4 * 4611686018427387904 : Nat) : Int) := by
    show ((b : Int) * 4611686018427387904) % 18446744073709551616 = _
    omega
  have e2 : (a : Int) / 4 = ((a / 4 : Nat) : Int) := by omega
  rw [e1, e2, u64_or_nat _ _ (by omega) (by omega), Nat.mul_comm (b % 4), Nat.or_comm, show (4611686018427387904 : Nat) = 2 ^ 62 from rfl, ← Nat.two_pow_add_eq_or_of_lt (by omega), Nat.add_comm]

theorem six_gen {G : World → Prop} (w : World) (o0 o1 o2 o3 o4 o5 : Obj) (h : ∀ x : World, x.heap[w.heap.size + 1 + 1]? = some o2 → x.heap[w.heap.size + 1 + 1 + 1 + 1]? = some o4 → x.heap[w.heap.size + 1 + 1 + 1 + 1 + 1]? = some o5 → w.grownBy x none → G x) :
    G ((((((w.alloc o0).alloc o1).alloc o2).alloc o3).alloc o4).alloc o5) := by
  refine h _ ?_ ?_ ?_ (grow_alloc (grow_alloc (grow_alloc (grow_alloc (grow_alloc (grow_alloc (grow_refl w none) _) _) _) _) _) _)
  · refine obj_alloc (obj_alloc (obj_alloc ?_))
    have := obj_new ((w.alloc o0).alloc o1) o2
    rwa [show ((w.alloc o0).alloc o1).heap.size = w.heap.size + 1 + 1 from by simp] at this
  · refine obj_alloc ?_
    have := obj_new ((((w.alloc o0).alloc o1).alloc o2).alloc o3) o4
    rwa [show ((((w.alloc o0).alloc o1).alloc o2).alloc o3).heap.size = w.heap.size + 1 + 1 + 1 + 1 from by simp] at this
  · have := obj_new (((((w.alloc o0).alloc o1).alloc o2).alloc o3).alloc o4) o5
    rwa [show (((((w.alloc o0).alloc o1).alloc o2).alloc o3).alloc o4).heap.size = w.heap.size + 1 + 1 + 1 + 1 + 1 from by simp] at this

theorem cell_s3 {w : World} {x : Addr} {v : Value} {B : Nat} {a b c : Value} (h : w.cell? x = some v) (hn : x.block ≠ B) : (((w.setCell ⟨B, 0, none⟩ a).setCell ⟨B, 1, none⟩ b).setCell ⟨B, 2, none⟩ c).cell? x = some v := by
  have hg : w.grownBy (((w.setCell ⟨B, 0, none⟩ a).setCell ⟨B, 1, none⟩ b).setCell ⟨B, 2, none⟩ c) (some B) := grow_setCell (grow_setCell (grow_setCell (grow_refl _ _) _ _) _ _) _ _
  exact hg.cell h (by simpa using hn)

theorem tailA {G : World → Prop} (w w4 : World) (B4 B13 : Nat) (us vs : List Value) (o : Obj) (hG : w.grownBy w4 none) (h4 : Blk w4 B4 150 us) (h13 : Blk w4 B13 150 vs)
    (h : ∀ y : World, w.grownBy y none → Blk y B4 150 us → Blk y B13 150 vs → y.heap[w4.heap.size]? = some o → G y) : G (w4.alloc o) :=
  h _ (grow_alloc hG _) (h4.kept (World.grownBy_alloc _ _ none) (by simp)) (h13.kept (World.grownBy_alloc _ _ none) (by simp)) (obj_new _ _)

theorem tailB {G : World → Prop} (w w4 : World) (B4 B13 B : Nat) (us vs : List Value) (a b c p q r : Value) (hG : w.grownBy w4 none) (h4 : Blk w4 B4 150 us) (h13 : Blk w4 B13 150 vs) (hB : Blk w4 B 150 [a, b, c]) (hw : w.heap.size ≤ B) (n4 : B4 ≠ B) (n13 : B13 ≠ B)
    (h : ∀ y : World, w.grownBy y none → Blk y B4 150 us → Blk y B13 150 vs → y.heap[B]? = some (.cells #[p, q, r] 150 (0, 0)) → G y) : G (((w4.setCell ⟨B, 0, none⟩ p).setCell ⟨B, 1, none⟩ q).setCell ⟨B, 2, none⟩ r) := by
  have hg : w4.grownBy (((w4.setCell ⟨B, 0, none⟩ p).setCell ⟨B, 1, none⟩ q).setCell ⟨B, 2, none⟩ r) (some B) := grow_setCell (grow_setCell (grow_setCell (grow_refl _ _) _ _) _ _) _ _
  exact h _ (grow3 hG hw _ _ _) (h4.kept hg (by simpa using n4)) (h13.kept hg (by simpa using n13)) (blk3_set hB p q r)

set_option maxRecDepth 40000 in
set_option maxHeartbeats 8000000 in
theorem code_ptimes (w : World) (x r : Nat) (a0 a1 a2 b0 b1 : Nat) (la0 : a0 < 18446744073709551616) (la1 : a1 < 18446744073709551616) (la2 : a2 < 18446744073709551616) (lb0 : b0 < 18446744073709551616) (lb1 : b1 < 18446744073709551616) :
    Calls Tryz.prog 94 #[.agg #[.int .u64 (a0 : Int), .int .u64 (a1 : Int), .int .u64 (a2 : Int)], .agg #[.int .u64 (b0 : Int), .int .u64 (b1 : Int)]] w (Grown (N3 (pmul (a0 + 18446744073709551616 * a1 + 340282366920938463463374607431768211456 * a2) (b0 + 18446744073709551616 * b1))) w) := by
  obtain ⟨h00, l00, m00, lh00, ll00, M00⟩ := mul64_named a0 b0 la0 lb0
  obtain ⟨s00, c00, es00, ls00, kc00, Es000⟩ := add64_eq 0 l00 0 (by omega) (by omega) ll00
  have Es00 : ∀ w : World, (callFunc 142 #[.int .u64 0, .int .u64 (l00 : Int), .int .u64 0]).run Tryz.prog w = .ok (.value (.tuple #[.int .u64 (s00 : Int), .int .u64 (c00 : Int)])) w := Es000
  obtain ⟨t00, d00, et00, lt00, kd00, Et000⟩ := add64_eq 0 h00 c00 kc00 (by omega) lh00
  have Et00 : ∀ w : World, (callFunc 142 #[.int .u64 0, .int .u64 (h00 : Int), .int .u64 (c00 : Int)]).run Tryz.prog w = .ok (.value (.tuple #[.int .u64 (t00 : Int), .int .u64 (d00 : Int)])) w := Et000
  clear Es000 Et000
  have ld00 : d00 < 18446744073709551616 := Nat.lt_of_le_of_lt kd00 (by omega)
  have Rd00 : (d00 : Int) % 18446744073709551616 = (d00 : Int) := one_mod kd00
  have Qd00 : IntKind.u64.wrap (d00 : Int) = (d00 : Int) := one_wrap kd00
  obtain ⟨h01, l01, m01, lh01, ll01, M01⟩ := mul64_named a0 b1 la0 lb1
  obtain ⟨s01, c01, es01, ls01, kc01, Es010⟩ := add64_eq t00 l01 0 (by omega) lt00 ll01
  have Es01 : ∀ w : World, (callFunc 142 #[.int .u64 (t00 : Int), .int .u64 (l01 : Int), .int .u64 0]).run Tryz.prog w = .ok (.value (.tuple #[.int .u64 (s01 : Int), .int .u64 (c01 : Int)])) w := Es010
  obtain ⟨t01, d01, et01, lt01, kd01, Et010⟩ := add64_eq d00 h01 c01 kc01 ld00 lh01
  have Et01 : ∀ w : World, (callFunc 142 #[.int .u64 (d00 : Int), .int .u64 (h01 : Int), .int .u64 (c01 : Int)]).run Tryz.prog w = .ok (.value (.tuple #[.int .u64 (t01 : Int), .int .u64 (d01 : Int)])) w := Et010
  clear Es010 Et010
  have ld01 : d01 < 18446744073709551616 := Nat.lt_of_le_of_lt kd01 (by omega)
  have Rd01 : (d01 : Int) % 18446744073709551616 = (d01 : Int) := one_mod kd01
  have Qd01 : IntKind.u64.wrap (d01 : Int) = (d01 : Int) := one_wrap kd01
  obtain ⟨h10, l10, m10, lh10, ll10, M10⟩ := mul64_named a1 b0 la1 lb0
  obtain ⟨s10, c10, es10, ls10, kc10, Es100⟩ := add64_eq s01 l10 0 (by omega) ls01 ll10
  have Es10 : ∀ w : World, (callFunc 142 #[.int .u64 (s01 : Int), .int .u64 (l10 : Int), .int .u64 0]).run Tryz.prog w = .ok (.value (.tuple #[.int .u64 (s10 : Int), .int .u64 (c10 : Int)])) w := Es100
  obtain ⟨t10, d10, et10, lt10, kd10, Et100⟩ := add64_eq t01 h10 c10 kc10 lt01 lh10
  have Et10 : ∀ w : World, (callFunc 142 #[.int .u64 (t01 : Int), .int .u64 (h10 : Int), .int .u64 (c10 : Int)]).run Tryz.prog w = .ok (.value (.tuple #[.int .u64 (t10 : Int), .int .u64 (d10 : Int)])) w := Et100
  clear Es100 Et100
  obtain ⟨u10, eu10, lu10, Ru10, Qu10⟩ := two_mod kd01 kd10
  obtain ⟨h11, l11, m11, lh11, ll11, M11⟩ := mul64_named a1 b1 la1 lb1
  obtain ⟨s11, c11, es11, ls11, kc11, Es110⟩ := add64_eq t10 l11 0 (by omega) lt10 ll11
  have Es11 : ∀ w : World, (callFunc 142 #[.int .u64 (t10 : Int), .int .u64 (l11 : Int), .int .u64 0]).run Tryz.prog w = .ok (.value (.tuple #[.int .u64 (s11 : Int), .int .u64 (c11 : Int)])) w := Es110
  obtain ⟨t11, d11, et11, lt11, kd11, Et110⟩ := add64_eq u10 h11 c11 kc11 lu10 lh11
  have Et11 : ∀ w : World, (callFunc 142 #[.int .u64 (u10 : Int), .int .u64 (h11 : Int), .int .u64 (c11 : Int)]).run Tryz.prog w = .ok (.value (.tuple #[.int .u64 (t11 : Int), .int .u64 (d11 : Int)])) w := Et110
  clear Es110 Et110
  have ld11 : d11 < 18446744073709551616 := Nat.lt_of_le_of_lt kd11 (by omega)
  have Rd11 : (d11 : Int) % 18446744073709551616 = (d11 : Int) := one_mod kd11
  have Qd11 : IntKind.u64.wrap (d11 : Int) = (d11 : Int) := one_wrap kd11
  obtain ⟨h20, l20, m20, lh20, ll20, M20⟩ := mul64_named a2 b0 la2 lb0
  obtain ⟨s20, c20, es20, ls20, kc20, Es200⟩ := add64_eq s11 l20 0 (by omega) ls11 ll20
  have Es20 : ∀ w : World, (callFunc 142 #[.int .u64 (s11 : Int), .int .u64 (l20 : Int), .int .u64 0]).run Tryz.prog w = .ok (.value (.tuple #[.int .u64 (s20 : Int), .int .u64 (c20 : Int)])) w := Es200
  obtain ⟨t20, d20, et20, lt20, kd20, Et200⟩ := add64_eq t11 h20 c20 kc20 lt11 lh20
  have Et20 : ∀ w : World, (callFunc 142 #[.int .u64 (t11 : Int), .int .u64 (h20 : Int), .int .u64 (c20 : Int)]).run Tryz.prog w = .ok (.value (.tuple #[.int .u64 (t20 : Int), .int .u64 (d20 : Int)])) w := Et200
  clear Es200 Et200
  obtain ⟨u20, eu20, lu20, Ru20, Qu20⟩ := two_mod kd11 kd20
  obtain ⟨h21, l21, m21, lh21, ll21, M21⟩ := mul64_named a2 b1 la2 lb1
  obtain ⟨s21, c21, es21, ls21, kc21, Es210⟩ := add64_eq t20 l21 0 (by omega) lt20 ll21
  have Es21 : ∀ w : World, (callFunc 142 #[.int .u64 (t20 : Int), .int .u64 (l21 : Int), .int .u64 0]).run Tryz.prog w = .ok (.value (.tuple #[.int .u64 (s21 : Int), .int .u64 (c21 : Int)])) w := Es210
  obtain ⟨t21, d21, et21, lt21, kd21, Et210⟩ := add64_eq u20 h21 c21 kc21 lu20 lh21
  have Et21 : ∀ w : World, (callFunc 142 #[.int .u64 (u20 : Int), .int .u64 (h21 : Int), .int .u64 (c21 : Int)]).run Tryz.prog w = .ok (.value (.tuple #[.int .u64 (t21 : Int), .int .u64 (d21 : Int)])) w := Et210
  clear Es210 Et210
  have tot := poly_total a0 a1 a2 b0 b1 h00 l00 s00 c00 t00 d00 h01 l01 s01 c01 t01 d01 h10 l10 s10 c10 t10 d10 u10 h11 l11 s11 c11 t11 d11 h20 l20 s20 c20 t20 d20 u20 h21 l21 s21 c21 t21 d21 m00 m01 m10 m11 m20 m21 es00 et00 es01 et01 es10 et10 eu10 es11 et11 es20 et20 eu20 es21 et21
  have hand := and3 s20 ls20
  have Q0 := or_hi s20 s21 ls20 ls21
  have Q1 := or_hi s21 t21 ls21 lt21
  have lx : a0 + 18446744073709551616 * a1 + 340282366920938463463374607431768211456 * a2 < 6277101735386680763835789423207666416102355444464034512896 := by clear tot m00 es00 et00 m01 es01 et01 eu10 m10 es10 et10 m11 es11 et11 eu20 m20 es20 et20 m21 es21 et21; omega
  have lr : b0 + 18446744073709551616 * b1 < 340282366920938463463374607431768211456 := by clear tot m00 es00 et00 m01 es01 et01 eu10 m10 es10 et10 m11 es11 et11 eu20 m20 es20 et20 m21 es21 et21; omega
  have lp := prod_lt _ _ lx lr
  have hpm : pmul (a0 + 18446744073709551616 * a1 + 340282366920938463463374607431768211456 * a2) (b0 + 18446744073709551616 * b1) = pfold (((a0 + 18446744073709551616 * a1 + 340282366920938463463374607431768211456 * a2) * (b0 + 18446744073709551616 * b1) % 1361129467683753853853498429727072845824 + 5 * ((a0 + 18446744073709551616 * a1 + 340282366920938463463374607431768211456 * a2) * (b0 + 18446744073709551616 * b1) / 1361129467683753853853498429727072845824)) % 6277101735386680763835789423207666416102355444464034512896) := rfl
  generalize pmul (a0 + 18446744073709551616 * a1 + 340282366920938463463374607431768211456 * a2) (b0 + 18446744073709551616 * b1) = R at *
  generalize (a0 + 18446744073709551616 * a1 + 340282366920938463463374607431768211456 * a2) * (b0 + 18446744073709551616 * b1) = T at *
  clear m00 es00 et00 m01 es01 et01 eu10 m10 es10 et10 m11 es11 et11 eu20 m20 es20 et20 m21 es21 et21 lx lr
  have d0 : d21 = 0 := by omega
  subst d0
  rw [Nat.mul_zero, Nat.add_zero] at tot
  obtain ⟨sl, sh⟩ := split130 T s00 s10 s20 s21 t21 ls00 ls10 ls20 ls21 tot
  have n1 := N3_of s00 s10 (s20 % 4) ls00 ls10 (by omega)
  rw [← sl] at n1
  have n2 := N3_of (s20 / 4 + s21 % 4 * 4611686018427387904) (s21 / 4 + t21 % 4 * 4611686018427387904) (t21 / 4) (by omega) (by omega) (by omega)
  rw [← sh] at n2
  generalize s20 % 4 = g2 at *
  generalize s20 / 4 + s21 % 4 * 4611686018427387904 = q0 at *
  generalize s21 / 4 + t21 % 4 * 4611686018427387904 = q1 at *
  have Q2 : (t21 : Int) / 4 = ((t21 / 4 : Nat) : Int) := rfl
  generalize t21 / 4 = q2 at *
  generalize T % 1361129467683753853853498429727072845824 = lo at *
  generalize T / 1361129467683753853853498429727072845824 = hi at *
  obtain ⟨f0, f1, f2, n3⟩ := N3_atoms (hi + hi)
  obtain ⟨g0', g1', g2', n4⟩ := N3_atoms (hi + hi + hi)
  obtain ⟨i0', i1', i2', n5⟩ := N3_atoms (hi + hi + hi + hi)
  obtain ⟨j0', j1', j2', n6⟩ := N3_atoms (hi + hi + hi + hi + hi)
  obtain ⟨k0', k1', k2', n7⟩ := N3_atoms (lo + (hi + hi + hi + hi + hi))
  obtain ⟨v0, v1, v2, n8⟩ := N3_atoms R
  have A1 := fun W : World => code_pplus W hi hi
  have A2 := fun W : World => code_pplus W (hi + hi) hi
  have A3 := fun W : World => code_pplus W (hi + hi + hi) hi
  have A4 := fun W : World => code_pplus W (hi + hi + hi + hi) hi
  have A5 := fun W : World => code_pplus W lo (hi + hi + hi + hi + hi)
  have A6 := fun W : World => code_pfolded W ((lo + 5 * hi) % 6277101735386680763835789423207666416102355444464034512896) (Nat.mod_lt _ (by omega))
  rw [← hpm] at A6
  have e5 : lo + 5 * hi = lo + (hi + hi + hi + hi + hi) := by omega
  simp only [N3_mod, e5] at A6
  rw [n7, n8] at A6
  rw [n1, n6, n7] at A5
  rw [n2, n3] at A1
  rw [n2, n3, n4] at A2
  rw [n2, n4, n5] at A3
  rw [n2, n5, n6] at A4
  rw [n8]
  clear hpm e5 n1 n2 n3 n4 n5 n6 n7 n8 tot sl sh lp ld00 lh00 ll00 ls00 lt00 kc00 kd00 ld01 lh01 ll01 ls01 lt01 kc01 kd01 lu10 lh10 ll10 ls10 lt10 kc10 kd10 ld11 lh11 ll11 ls11 lt11 kc11 kd11 lu20 lh20 ll20 ls20 lt20 kc20 kd20 lh21 ll21 ls21 lt21 kc21 kd21 la0 la1 la2 lb0 lb1
  have i0 := idxN0
  have i1 := idxN1
  have i2 := idxN2
  have j0 := idxR0
  have j1 := idxR1
  go_enter Tryz.func94, Tryz.ntmps94
  go_wp2_with fail
  refine wp_loop_rounds 4 ?_
  rw [rounds_succ]
  go_wp2_with fail
  refine wp_loop_rounds 3 ?_
  rw [rounds_succ]
  go_wp2_with fail
  refine (M00 _).mono ?_
  rintro e v00 ⟨rfl, rfl⟩
  go_wp2_with fail
  rw [rounds_succ]
  go_wp2_with fail
  refine (M01 _).mono ?_
  rintro e v01 ⟨rfl, rfl⟩
  go_wp2_with fail
  rw [rounds_succ]
  go_wp2_with fail
  rw [rounds_succ]
  go_wp2_with fail
  refine wp_loop_rounds 3 ?_
  rw [rounds_succ]
  go_wp2_with fail
  refine (M10 _).mono ?_
  rintro e v10 ⟨rfl, rfl⟩
  go_wp2_with fail
  rw [rounds_succ]
  go_wp2_with fail
  refine (M11 _).mono ?_
  rintro e v11 ⟨rfl, rfl⟩
  go_wp2_with fail
  rw [rounds_succ]
  go_wp2_with fail
  rw [rounds_succ]
  go_wp2_with fail
  refine wp_loop_rounds 3 ?_
  rw [rounds_succ]
  go_wp2_with fail
  refine (M20 _).mono ?_
  rintro e v20 ⟨rfl, rfl⟩
  go_wp2_with fail
  rw [rounds_succ]
  go_wp2_with fail
  refine (M21 _).mono ?_
  rintro e v21 ⟨rfl, rfl⟩
  go_wp2_with fail
  rw [rounds_succ]
  go_wp2_with fail
  rw [rounds_succ]
  go_wp2_with fail
  clear Es00 Et00 Es01 Et01 Es10 Et10 Es11 Et11 Es20 Et20 Es21 Et21 M00 M01 M10 M11 M20 M21 i0 i1 i2 j0 j1
  rename_i K9 K8 K7 a5 K6 K5 a4 K4 K3 a3 K2 a2
  clear K8 K6 K4 a3
  refine six_gen w _ _ _ _ _ _ fun x k2 k4 k5 kg => ?_
  have r2 : Blk x (w.heap.size + 1 + 1) 150 z3 := k2
  have r4 : Blk x (w.heap.size + 1 + 1 + 1 + 1) 150 [.int .u64 (s00 : Int), .int .u64 (s10 : Int), .int .u64 (g2 : Int)] := k4
  have r5 : Blk x (w.heap.size + 1 + 1 + 1 + 1 + 1) 150 [.int .u64 (q0 : Int), .int .u64 (q1 : Int), .int .u64 (q2 : Int)] := k5
  clear k2 k4 k5 Rd00 Qd00 Rd01 Qd01 Ru10 Qu10 Rd11 Qd11 Ru20 Qu20 Q2
  obtain ⟨⟨p0, p1, p2⟩, _⟩ := blk3 r5
  have hB5 := r5.lt
  have G0 : w.grownBy x.drew none := grow_drew kg
  have S0 : Blk x.drew (w.heap.size + 1 + 1) 150 z3 := r2
  have T0 : Blk x.drew (w.heap.size + 1 + 1 + 1 + 1) 150 [.int .u64 (s00 : Int), .int .u64 (s10 : Int), .int .u64 (g2 : Int)] := r4
  have p0' := cell_al (w := x) (.cells #[.int .u64 0, .int .u64 0, .int .u64 0] 150) p0
  have lS := r2.lt
  have lT := r4.lt
  clear r2 r4 r5 kg p0'
  have nz := S0
  go_region_held3 (fun w' => w'.cell? ⟨w.heap.size + 1 + 1 + 1 + 1 + 1, 0, none⟩ = some (.int .u64 (q0 : Int)) ∧ w'.cell? ⟨w.heap.size + 1 + 1 + 1 + 1 + 1, 1, none⟩ = some (.int .u64 (q1 : Int)) ∧ w'.cell? ⟨w.heap.size + 1 + 1 + 1 + 1 + 1, 2, none⟩ = some (.int .u64 (q2 : Int)))
    (first | (refine ⟨?_, ?_, ?_⟩ <;> assumption) | (refine ⟨cell_al _ ?_, cell_al _ ?_, cell_al _ ?_⟩ <;> assumption) | (refine ⟨cell_s3 ?_ ?_, cell_s3 ?_ ?_, cell_s3 ?_ ?_⟩ <;> (first | assumption | (intro e; simp at e; omega))))
    (first
      | (go_at_call 93; (with_reducible refine (A1 _).mono ?_); rintro e w1 ⟨rfl, hg1⟩; have y0 := hg1.cell (by first | exact p0 | exact cell_al _ p0) (by simp); have y1 := hg1.cell (by first | exact p1 | exact cell_al _ p1) (by simp); have y2 := hg1.cell (by first | exact p2 | exact cell_al _ p2) (by simp); have G1 : w.grownBy w1 none := grow_trans (by first | exact G0 | exact grow_alloc G0 _) hg1; have S1 := Blk.kept (by first | exact S0 | exact Blk.kept S0 (World.grownBy_alloc _ _ none) (by simp)) hg1 (by simp); have T1 := Blk.kept (by first | exact T0 | exact Blk.kept T0 (World.grownBy_alloc _ _ none) (by simp)) hg1 (by simp); have b1 : w.heap.size + 1 + 1 + 1 + 1 + 1 < w1.heap.size := World.block_lt_of_cell? w1 _ y0; (first | (have nz := Blk.kept (Blk.new _ 150 z3).drew hg1 (by simp)) | (have nz := Blk.kept nz hg1 (by simp))))
      | (go_at_call 93; (with_reducible refine (A2 _).mono ?_); rintro e w2 ⟨rfl, hg2⟩; have z0 := hg2.cell (by first | exact y0 | exact cell_al _ y0) (by simp); have z1 := hg2.cell (by first | exact y1 | exact cell_al _ y1) (by simp); have z2 := hg2.cell (by first | exact y2 | exact cell_al _ y2) (by simp); have G2 : w.grownBy w2 none := grow_trans (by first | exact G1 | exact grow_alloc G1 _) hg2; have S2 := Blk.kept (by first | exact S1 | exact Blk.kept S1 (World.grownBy_alloc _ _ none) (by simp)) hg2 (by simp); have T2 := Blk.kept (by first | exact T1 | exact Blk.kept T1 (World.grownBy_alloc _ _ none) (by simp)) hg2 (by simp); have b2 : w.heap.size + 1 + 1 + 1 + 1 + 1 < w2.heap.size := World.block_lt_of_cell? w2 _ z0; (first | (have nz := Blk.kept (Blk.new _ 150 z3) hg2 (by simp)) | (have nz := Blk.kept nz hg2 (by simp))))
      | (go_at_call 93; (with_reducible refine (A3 _).mono ?_); rintro e w3 ⟨rfl, hg3⟩; have u0 := hg3.cell (by first | exact z0 | exact cell_al _ z0) (by simp); have u1 := hg3.cell (by first | exact z1 | exact cell_al _ z1) (by simp); have u2 := hg3.cell (by first | exact z2 | exact cell_al _ z2) (by simp); have G3 : w.grownBy w3 none := grow_trans (by first | exact G2 | exact grow_alloc G2 _) hg3; have S3 := Blk.kept (by first | exact S2 | exact Blk.kept S2 (World.grownBy_alloc _ _ none) (by simp)) hg3 (by simp); have T3 := Blk.kept (by first | exact T2 | exact Blk.kept T2 (World.grownBy_alloc _ _ none) (by simp)) hg3 (by simp); have b3 : w.heap.size + 1 + 1 + 1 + 1 + 1 < w3.heap.size := World.block_lt_of_cell? w3 _ u0; (first | (have nz := Blk.kept (Blk.new _ 150 z3) hg3 (by simp)) | (have nz := Blk.kept nz hg3 (by simp))))
      | (go_at_call 93; (with_reducible refine (A4 _).mono ?_); rintro e w4 ⟨rfl, hg4⟩; have vv0 := hg4.cell (by first | exact u0 | exact cell_al _ u0) (by simp); have vv1 := hg4.cell (by first | exact u1 | exact cell_al _ u1) (by simp); have vv2 := hg4.cell (by first | exact u2 | exact cell_al _ u2) (by simp); have G4 : w.grownBy w4 none := grow_trans (by first | exact G3 | exact grow_alloc G3 _) hg4; have S4 := Blk.kept (by first | exact S3 | exact Blk.kept S3 (World.grownBy_alloc _ _ none) (by simp)) hg4 (by simp); have T4 := Blk.kept (by first | exact T3 | exact Blk.kept T3 (World.grownBy_alloc _ _ none) (by simp)) hg4 (by simp); have b4 : w.heap.size + 1 + 1 + 1 + 1 + 1 < w4.heap.size := World.block_lt_of_cell? w4 _ vv0; (first | (have nz := Blk.kept (Blk.new _ 150 z3) hg4 (by simp)) | (have nz := Blk.kept nz hg4 (by simp))); (obtain ⟨⟨nc0, nc1, nc2⟩, nf0, nf1, nf2⟩ := blk3 nz)))
  all_goals
    first
      | refine tailA w w4 (w.heap.size + 1 + 1) (w.heap.size + 1 + 1 + 1 + 1) _ _ _ G4 S4 T4 fun y gy Sy Ty hn => ?_
      | refine tailB w w4 (w.heap.size + 1 + 1) (w.heap.size + 1 + 1 + 1 + 1) _ _ _ _ _ _ _ _ _ G4 S4 T4 nz (by omega) (by omega) (by omega) fun y gy Sy Ty hn => ?_
    replace hn : Blk y _ 150 [.int .u64 (j0' : Int), .int .u64 (j1' : Int), .int .u64 (j2' : Int)] := hn
    obtain ⟨⟨e0, e1, e2⟩, _⟩ := blk3 Ty
    obtain ⟨⟨f0', f1', f2'⟩, _⟩ := blk3 hn
    have HS : Hid (Blk y (w.heap.size + 1 + 1) 150 [.int .u64 0, .int .u64 0, .int .u64 0]) := Lib.hid Sy
    have HG := Lib.hid gy
    clear hn Ty Sy gy A1 A2 A3 A4 S0 T0 nz G0 lS lT hB5 p0 p1 p2 S1 S2 S3 S4 T1 T2 T3 T4 G1 G2 G3 G4 y0 y1 y2 z0 z1 z2 u0 u1 u2 vv0 vv1 vv2 nc0 nc1 nc2 nf0 nf1 nf2 b1 b2 b3 b4
    go_wp2_with fail
    with_reducible refine (A5 _).mono ?_
    rintro e u1 ⟨rfl, hg1⟩
    go_wp2_with fail
    with_reducible refine (A6 _).mono ?_
    rintro e u2 ⟨rfl, hg2⟩
    have HS2 : Blk u2 (w.heap.size + 1 + 1) 150 [.int .u64 0, .int .u64 0, .int .u64 0] := (HS.out.kept hg1 nofun).kept hg2 nofun
    obtain ⟨⟨c0, c1, c2⟩, f0, f1, f2⟩ := blk3 HS2
    have HSH := Lib.hid HS2
    clear HS2
    clear e0 e1 e2 f0' f1' f2' A5 A6
    rename_i a1 K0 a0
    have HRET := Lib.hid a1
    have hgw := grow3 (grow_trans (grow_trans HG.out hg1) hg2) (show w.heap.size ≤ w.heap.size + 1 + 1 by omega) (.int .u64 (v0 : Int)) (.int .u64 (v1 : Int)) (.int .u64 (v2 : Int))
    have HGW := Lib.hid hgw
    have hW := blk3_set HSH.out (.int .u64 (v0 : Int)) (.int .u64 (v1 : Int)) (.int .u64 (v2 : Int))
    have HW := Lib.hid hW
    clear a1 hgw hW
    go_wp2_with fail
    refine HRET.out _ _ ?_
    clear HRET
    refine wp_ret ?_
    refine bodyPost_ret (v := .agg #[.int .u64 (v0 : Int), .int .u64 (v1 : Int), .int .u64 (v2 : Int)]) (results_row Tryz.results94 _ _ (w.heap.size + 1 + 1) rfl _ _ HW.out Tryz.underlying150 rfl info3) rfl ?_
    exact ⟨rfl, HGW.out⟩

end Go.Proofs.YtmomfbkpniblgaaGreatDoor
