/- Poly1305: the functions of its numbers. -/
import Derived.Test.YtffeekfofbcobaaGreatNum3
import Derived.Test.YtffeekfofbcobaaGreatZeros
import Derived.Test.YtffeekfofbcobaaGreatRow
import Derived.Test.YtffeekfofbcobaaGreatLittle
import Derived.Laws.Externs
import Derived.Deep.RegionHeld3
import Derived.Deep.RegionWith
namespace Go.Proofs.YtffeekfofbcobaaGreat
open Go.RowKit
set_option linter.unusedVariables false

theorem add64_run (x y c : Nat) (hc : c ≤ 1) (w : World) : (callFunc 92 #[.int .u64 x, .int .u64 y, .int .u64 c]).run Tryz.prog w =
    .ok (.value (.tuple #[.int .u64 (((x + y + c) % 18446744073709551616 : Nat) : Int), .int .u64 (((x + y + c) / 18446744073709551616 : Nat) : Int)])) w := by
  rw [run_callFunc_extern Tryz.func92 (by kernel_rfl) (by kernel_rfl) (by kernel_rfl) (e := add64Entry) (by kernel_rfl), run_add64 x y c (by omega) (by omega) (by omega) (by omega)]
  simp only [Result.andThen]
  congr 5 <;> omega

/-- A sum of two words and a carry, under names. -/
theorem add64_named (x y c : Nat) (hc : c ≤ 1) (hx : x < 18446744073709551616) (hy : y < 18446744073709551616) : ∃ s d : Nat, s = (x + y + c) % 18446744073709551616 ∧ d = (x + y + c) / 18446744073709551616 ∧ d ≤ 1 ∧
    ∀ w : World, (callFunc 92 #[.int .u64 x, .int .u64 y, .int .u64 c]).run Tryz.prog w = .ok (.value (.tuple #[.int .u64 (s : Int), .int .u64 (d : Int)])) w :=
  ⟨_, _, rfl, rfl, by omega, fun w => add64_run x y c hc w⟩

set_option maxRecDepth 20000 in
set_option maxHeartbeats 1000000 in
theorem code_pplus (w : World) (x y : Nat) : Calls Tryz.prog 87 #[N3 x, N3 y] w (Grown (N3 (x + y)) w) := by
  have hfin : ∀ s0 s1 s2 c0 c1 : Nat, s0 = (x % 18446744073709551616 + y % 18446744073709551616 + 0) % 18446744073709551616 → c0 = (x % 18446744073709551616 + y % 18446744073709551616 + 0) / 18446744073709551616 →
      s1 = (x / 18446744073709551616 % 18446744073709551616 + y / 18446744073709551616 % 18446744073709551616 + c0) % 18446744073709551616 → c1 = (x / 18446744073709551616 % 18446744073709551616 + y / 18446744073709551616 % 18446744073709551616 + c0) / 18446744073709551616 →
      s2 = (x / 18446744073709551616 / 18446744073709551616 % 18446744073709551616 + y / 18446744073709551616 / 18446744073709551616 % 18446744073709551616 + c1) % 18446744073709551616 →
      N3 (x + y) = .agg #[.int .u64 (s0 : Int), .int .u64 (s1 : Int), .int .u64 (s2 : Int)] := by
    intro s0 s1 s2 c0 c1 h1 h2 h3 h4 h5
    obtain ⟨d0, d1, _, _, e0, e1, e2, e3, e4⟩ := sum_words x y
    rw [Nat.add_zero] at h1 h2
    obtain rfl : c0 = d0 := by rw [h2, e0]
    obtain rfl : c1 = d1 := by rw [h4, e2]
    rw [h1, h3, h5, e1, e3, e4]
    rfl
  generalize hV : N3 (x + y) = V at *
  clear hV
  unfold N3
  have ba : x % 18446744073709551616 < 18446744073709551616 := Nat.mod_lt _ (by omega)
  have bb : x / 18446744073709551616 % 18446744073709551616 < 18446744073709551616 := Nat.mod_lt _ (by omega)
  have bc : x / 18446744073709551616 / 18446744073709551616 % 18446744073709551616 < 18446744073709551616 := Nat.mod_lt _ (by omega)
  have bd : y % 18446744073709551616 < 18446744073709551616 := Nat.mod_lt _ (by omega)
  have be : y / 18446744073709551616 % 18446744073709551616 < 18446744073709551616 := Nat.mod_lt _ (by omega)
  have bf : y / 18446744073709551616 / 18446744073709551616 % 18446744073709551616 < 18446744073709551616 := Nat.mod_lt _ (by omega)
  generalize x % 18446744073709551616 = a at *
  generalize x / 18446744073709551616 % 18446744073709551616 = b at *
  generalize x / 18446744073709551616 / 18446744073709551616 % 18446744073709551616 = c at *
  generalize y % 18446744073709551616 = d at *
  generalize y / 18446744073709551616 % 18446744073709551616 = e' at *
  generalize y / 18446744073709551616 / 18446744073709551616 % 18446744073709551616 = f at *
  obtain ⟨s0, c0, h1, h2, k0, E0⟩ := add64_named a d 0 (by omega) ba bd
  obtain ⟨s1, c1, h3, h4, k1, E1⟩ := add64_named b e' c0 k0 bb be
  obtain ⟨s2, c2, h5, h6, k2, E2⟩ := add64_named c f c1 k1 bc bf
  have HF := Lib.hid (hfin s0 s1 s2 c0 c1 h1 h2 h3 h4 h5)
  have E0' : ∀ w : World, (callFunc 92 #[.int .u64 a, .int .u64 d, .int .u64 0]).run Tryz.prog w = .ok (.value (.tuple #[.int .u64 (s0 : Int), .int .u64 (c0 : Int)])) w := E0
  clear hfin h1 h2 h3 h4 h5 h6 E0 ba bb bc bd be bf k0 k1 k2
  go_enter Tryz.func87, Tryz.ntmps87
  go_wp2_with fail
  refine wp_loop_rounds 4 ?_
  rw [rounds_succ]
  go_wp2_with fail
  go_region
  go_wp2_with fail
  rw [rounds_succ]
  go_wp2_with fail
  go_region
  go_wp2_with fail
  rw [rounds_succ]
  go_wp2_with fail
  go_region
  go_wp2_with fail
  rw [rounds_succ]
  go_wp2_with fail
  refine bodyPost_ret (v := .agg #[.int .u64 (s0 : Int), .int .u64 (s1 : Int), .int .u64 (s2 : Int)]) (by simp [results, Tryz.results87, go_sem]) rfl ?_
  exact ⟨by rw [HF.out], grow_drew (grow_drew (grow_drew (grow_alloc (grow_alloc (grow_alloc (grow_refl w none) _) _) _)))⟩

theorem and3 (c : Nat) (hc : c < 18446744073709551616) : bits .and .u64 (c : Int) 3 = ((c % 4 : Nat) : Int) := by
  have := u64_and_nat c 3 hc (by omega)
  rw [show ((3 : Nat) : Int) = 3 from rfl] at this
  rw [this]
  congr 1
  exact Nat.and_two_pow_sub_one_eq_mod c 2

theorem N3_atoms (x : Nat) : ∃ p q r : Nat, N3 x = .agg #[.int .u64 (p : Int), .int .u64 (q : Int), .int .u64 (r : Int)] := ⟨_, _, _, rfl⟩

def z3 : List Value := [.int .u64 0, .int .u64 0, .int .u64 0]

theorem info3 : (Tryz.prog.info? 140).map (·.size) = some 3 := by kernel_rfl

/-- Facts on a block of three words, for the walk. -/
theorem blk3 {w : World} {B : Nat} {a b c : Value} (h : Blk w B 140 [a, b, c]) : (w.cell? ⟨B, 0, none⟩ = some a ∧ w.cell? ⟨B, 1, none⟩ = some b ∧ w.cell? ⟨B, 2, none⟩ = some c) ∧ w.frozen? ⟨B, 0, none⟩ = false ∧ w.frozen? ⟨B, 1, none⟩ = false ∧ w.frozen? ⟨B, 2, none⟩ = false :=
  ⟨⟨h.cell 0, h.cell 1, h.cell 2⟩, h.frozen 0, h.frozen 1, h.frozen 2⟩

theorem blk3_set {w : World} {B : Nat} {a b c : Value} (h : Blk w B 140 [a, b, c]) (p q r : Value) : Blk (((w.setCell ⟨B, 0, none⟩ p).setCell ⟨B, 1, none⟩ q).setCell ⟨B, 2, none⟩ r) B 140 [p, q, r] := ((h.set 0 p).set 1 q).set 2 r

theorem grow3 {a w : World} {B : Nat} {r : Option Nat} (h : a.grownBy w r) (hB : a.heap.size ≤ B) (p q s : Value) : a.grownBy (((w.setCell ⟨B, 0, none⟩ p).setCell ⟨B, 1, none⟩ q).setCell ⟨B, 2, none⟩ s) r :=
  grow_setCell_new (grow_setCell_new (grow_setCell_new h _ hB _) _ hB _) _ hB _

set_option maxRecDepth 20000 in
set_option maxHeartbeats 1000000 in
theorem code_pfolded (w : World) (x : Nat) (hx : x < 6277101735386680763835789423207666416102355444464034512896) : Calls Tryz.prog 93 #[N3 x] w (Grown (N3 (pfold x)) w) := by
  obtain ⟨V, hV⟩ : ∃ V, V = N3 (pfold x) := ⟨_, rfl⟩
  rw [← hV]
  have HV := Lib.hid hV
  clear hV
  unfold N3
  have hc : x / 18446744073709551616 / 18446744073709551616 % 18446744073709551616 < 18446744073709551616 := Nat.mod_lt _ (by omega)
  obtain ⟨a, ha⟩ : ∃ a, a = x % 18446744073709551616 := ⟨_, rfl⟩
  obtain ⟨b, hb⟩ : ∃ b, b = x / 18446744073709551616 % 18446744073709551616 := ⟨_, rfl⟩
  obtain ⟨c, hcc⟩ : ∃ c, c = x / 18446744073709551616 / 18446744073709551616 % 18446744073709551616 := ⟨_, rfl⟩
  rw [← ha, ← hb, ← hcc]
  rw [← hcc] at hc
  have hand := and3 c hc
  obtain ⟨hxe, la, lb, _⟩ := words_of x a b c hx ha hb hcc
  obtain ⟨f1, f2⟩ := fold_words x a b c hxe la lb
  have n1 := N3_of a b (c % 4) la lb (by omega)
  rw [← f1] at n1
  have n2 := N3_small (5 * (c / 4) % 18446744073709551616) (Nat.mod_lt _ (by omega))
  have hp : pfold x = x % 1361129467683753853853498429727072845824 + 5 * (c / 4) % 18446744073709551616 := by rw [pfold, f2]
  have e1 : IntKind.u64.wrap (5 * ((c : Int) / 4)) = ((5 * (c / 4) % 18446744073709551616 : Nat) : Int) := by
    show (5 * ((c : Int) / 4)) % 18446744073709551616 = _
    omega
  have A : ∀ W : World, Calls Tryz.prog 87 #[.agg #[.int .u64 (a : Int), .int .u64 (b : Int), .int .u64 ((c : Int) % 4)], .agg #[.int .u64 (IntKind.u64.wrap (5 * ((c : Int) / 4))), .int .u64 0, .int .u64 0]] W (Grown V W) := by
    intro W
    have h := code_pplus W (x % 1361129467683753853853498429727072845824) (5 * (c / 4) % 18446744073709551616)
    rw [← hp, ← HV.out, n1, n2] at h
    rw [e1]
    exact h
  clear ha hb hcc hxe f1 f2 n1 n2 hp e1
  go_enter Tryz.func93, Tryz.ntmps93
  go_wp2_with fail
  refine (A _).mono ?_
  rintro e w1 ⟨rfl, hg⟩
  obtain ⟨p, q, r, hN⟩ := N3_atoms (pfold x)
  have hVp := HV.out.trans hN
  rw [hVp]
  have HVP := Lib.hid hVp
  have hb0 := Blk.new (w.alloc (.cells #[.int .u64 (a : Int), .int .u64 (b : Int), .int .u64 ((c : Int) % 4)] 140)) 140 z3
  have hb := hb0.kept hg (by simp)
  rw [show (w.alloc (.cells #[.int .u64 (a : Int), .int .u64 (b : Int), .int .u64 ((c : Int) % 4)] 140)).heap.size = w.heap.size + 1 from by simp] at hb
  obtain ⟨⟨c0, c1, c2⟩, f0, f1, f2⟩ := blk3 hb
  have hgw := grow_trans (grow_alloc (grow_alloc (grow_refl w none) _) _) hg
  have HB := Lib.hid hb
  clear hVp hN hb hb0 hg
  go_wp2_with fail
  have hW := blk3_set HB.out (.int .u64 (p : Int)) (.int .u64 (q : Int)) (.int .u64 (r : Int))
  refine bodyPost_ret (v := .agg #[.int .u64 (p : Int), .int .u64 (q : Int), .int .u64 (r : Int)]) (results_row Tryz.results93 _ _ (w.heap.size + 1) rfl _ _ hW Tryz.underlying140 rfl info3) rfl ?_
  exact ⟨by rw [HVP.out], grow3 hgw (by omega) _ _ _⟩

theorem pfold_lt (x : Nat) : pfold x < 1361129467683753853871945173800782397440 := by
  unfold pfold
  omega

set_option maxRecDepth 20000 in
set_option maxHeartbeats 1000000 in
theorem code_pleast (w : World) (x : Nat) (hx : x < 6277101735386680763835789423207666416102355444464034512896) : Calls Tryz.prog 89 #[N3 x] w (Grown (N3 (pleast x)) w) := by
  obtain ⟨V, hV⟩ : ∃ V, V = N3 (pleast x) := ⟨_, rfl⟩
  rw [← hV]
  have hpl : pleast x = if 0 < (pfold x + 5) / 18446744073709551616 / 18446744073709551616 % 18446744073709551616 / 4 then (pfold x + 5) % 1361129467683753853853498429727072845824 else pfold x := rfl
  have hy := pfold_lt x
  have A1 : ∀ W : World, Calls Tryz.prog 93 #[N3 x] W (Grown (N3 (pfold x)) W) := fun W => code_pfolded W x hx
  generalize pfold x = y at *
  obtain ⟨a, b, c, hN⟩ := N3_atoms x
  rw [hN] at A1
  rw [hN]
  obtain ⟨p, q, r, hY⟩ := N3_atoms y
  have A2 : ∀ W : World, Calls Tryz.prog 87 #[N3 y, N3 5] W (Grown (N3 (y + 5)) W) := fun W => code_pplus W y 5
  rw [hY, N3_small 5 (by omega)] at A2
  rw [hY] at A1
  obtain ⟨d, hd⟩ : ∃ d, d = (y + 5) % 18446744073709551616 := ⟨_, rfl⟩
  obtain ⟨e', he⟩ : ∃ e, e = (y + 5) / 18446744073709551616 % 18446744073709551616 := ⟨_, rfl⟩
  obtain ⟨f, hf⟩ : ∃ f, f = (y + 5) / 18446744073709551616 / 18446744073709551616 % 18446744073709551616 := ⟨_, rfl⟩
  obtain ⟨m1, m2, m3, m4⟩ := words_of (y + 5) d e' f (by omega) hd he hf
  have hM : N3 (y + 5) = .agg #[.int .u64 (d : Int), .int .u64 (e' : Int), .int .u64 (f : Int)] := by unfold N3; rw [← hd, ← he, ← hf]
  rw [hM] at A2
  have hL : N3 ((y + 5) % 1361129467683753853853498429727072845824) = .agg #[.int .u64 (d : Int), .int .u64 (e' : Int), .int .u64 ((f : Int) % 4)] := by
    rw [(fold_words (y + 5) d e' f m1 m2 m3).1, N3_of d e' (f % 4) m2 m3 (by omega)]
    rfl
  have HV1 := Lib.hid (show 4 ≤ f → V = .agg #[.int .u64 (d : Int), .int .u64 (e' : Int), .int .u64 ((f : Int) % 4)] from fun h => by
    rw [hV, hpl, ← hf, if_pos (by omega), hL])
  have HV2 := Lib.hid (show ¬ 4 ≤ f → V = .agg #[.int .u64 (p : Int), .int .u64 (q : Int), .int .u64 (r : Int)] from fun h => by
    rw [hV, hpl, ← hf, if_neg (by omega), hY])
  have hand := and3 f m4
  clear hV hpl hy hN hY hM hL hd he hf m1 m2 m3 hx
  go_enter Tryz.func89, Tryz.ntmps89
  go_wp2_with fail
  refine (A1 _).mono ?_
  rintro e w1 ⟨rfl, hg⟩
  have hg1 := grow_trans (grow_alloc (grow_alloc (grow_refl w none) _) _) hg
  have hb1 := (Blk.new (w.alloc (.cells #[.int .u64 (a : Int), .int .u64 (b : Int), .int .u64 (c : Int)] 140)) 140 z3).kept hg (by simp)
  rw [show (w.alloc (.cells #[.int .u64 (a : Int), .int .u64 (b : Int), .int .u64 (c : Int)] 140)).heap.size = w.heap.size + 1 from by simp] at hb1
  have hb0 := ((Blk.new w 140 [.int .u64 (a : Int), .int .u64 (b : Int), .int .u64 (c : Int)]).kept (World.grownBy_alloc _ (.cells z3.toArray 140) none) (by simp)).kept hg (by simp)
  obtain ⟨⟨c0, c1, c2⟩, f0, f1, f2⟩ := blk3 hb0
  have hb0' := blk3_set hb0 (.int .u64 (p : Int)) (.int .u64 (q : Int)) (.int .u64 (r : Int))
  have hgs : w1.grownBy (((w1.setCell ⟨w.heap.size, 0, none⟩ (.int .u64 (p : Int))).setCell ⟨w.heap.size, 1, none⟩ (.int .u64 (q : Int))).setCell ⟨w.heap.size, 2, none⟩ (.int .u64 (r : Int))) (some w.heap.size) := grow_setCell (grow_setCell (grow_setCell (grow_refl _ _) _ _) _ _) _ _
  have hb1' := hb1.kept hgs (by simp)
  have hg2 := grow_trans_new hg1 hgs (Nat.le_refl _)
  have HB := Lib.hid (And.intro hb0' (And.intro hb1' hg2))
  clear hg hg1 hb1 hb0 hb0' hgs hb1' hg2
  go_upto_region 2 with (fail)
  clear c0 c1 c2 f0 f1 f2
  have HB2 := HB.out
  generalize (((w1.setCell ⟨w.heap.size, 0, none⟩ (.int .u64 (p : Int))).setCell ⟨w.heap.size, 1, none⟩ (.int .u64 (q : Int))).setCell ⟨w.heap.size, 2, none⟩ (.int .u64 (r : Int))) = x2 at *
  obtain ⟨k0, k1, kg⟩ := HB2
  obtain ⟨⟨c0, c1, c2⟩, f0, f1, f2⟩ := blk3 k0
  have HK := Lib.hid (And.intro k0 (And.intro k1 kg))
  clear k0 k1 kg HB
  go_wp2_with fail
  refine (A2 _).mono ?_
  rintro e w3 ⟨rfl, hg3⟩
  have k0 := HK.out.1.kept hg3 (by simp)
  have k1 := HK.out.2.1.kept hg3 (by simp)
  have kg := grow_trans HK.out.2.2 hg3
  have HK3 := Lib.hid (And.intro k0 (And.intro k1 kg))
  clear c0 c1 c2 f0 f1 f2 k0 k1 kg hg3 HK A1 A2
  go_upto_region 3 with (fail)
  have j0 := HK3.out.1.kept (World.grownBy_alloc w3 (.cells #[.int .u64 (d : Int), .int .u64 (e' : Int), .int .u64 (f : Int)] 140) none) (by simp)
  have j1 := HK3.out.2.1.kept (World.grownBy_alloc w3 (.cells #[.int .u64 (d : Int), .int .u64 (e' : Int), .int .u64 (f : Int)] 140) none) (by simp)
  have j3 : Blk (w3.alloc (.cells #[.int .u64 (d : Int), .int .u64 (e' : Int), .int .u64 (f : Int)] 140)) w3.heap.size 140 [.int .u64 (d : Int), .int .u64 (e' : Int), .int .u64 (f : Int)] := Blk.new w3 _ _
  have jg := grow_alloc HK3.out.2.2 (.cells #[.int .u64 (d : Int), .int .u64 (e' : Int), .int .u64 (f : Int)] 140)
  have jne : w3.heap.size ≠ w.heap.size + 1 := by have := HK3.out.2.1.lt; omega
  have jle : w.heap.size ≤ w3.heap.size := HK3.out.2.2.size
  generalize w3.alloc (.cells #[.int .u64 (d : Int), .int .u64 (e' : Int), .int .u64 (f : Int)] 140) = x4 at *
  generalize w3.heap.size = B3 at *
  clear HK3
  obtain ⟨⟨c0, c1, c2⟩, f0, f1, f2⟩ := blk3 j0
  obtain ⟨⟨k0, k1, k2⟩, g0, g1, g2⟩ := blk3 j1
  obtain ⟨⟨l0, l1, l2⟩, h0, h1, h2⟩ := blk3 j3
  have HJ := Lib.hid (And.intro j1 (And.intro j3 jg))
  clear j0 j1 j3 jg
  by_cases h4 : 4 ≤ f
  · have qp : (0 : Int) < (f : Int) / 4 := by omega
    have HVp := Lib.hid (HV1.out h4)
    clear HV1 HV2 h4 c0 c1 c2 f0 f1 f2
    have hs := (HJ.out.1.kept (grow_setCell (grow_refl x4 (some B3)) 2 (.int .u64 ((f : Int) % 4))) (by simp; omega))
    obtain ⟨⟨s0, s1, s2⟩, t0, t1, t2⟩ := blk3 hs
    have hs3 := HJ.out.2.1.set 2 (.int .u64 ((f : Int) % 4))
    obtain ⟨⟨u0, u1, u2⟩, _⟩ := blk3 (a := .int .u64 (d : Int)) (b := .int .u64 (e' : Int)) (c := .int .u64 ((f : Int) % 4)) hs3
    have hgs := grow_setCell_new HJ.out.2.2 ⟨B3, 2, none⟩ jle (.int .u64 ((f : Int) % 4))
    have HS := Lib.hid (And.intro hs hgs)
    clear hs hs3 hgs
    go_upto_region 5 with (fail)
    have HS2 := HS.out
    generalize x4.setCell ⟨B3, 2, none⟩ (.int .u64 ((f : Int) % 4)) = x5 at *
    clear HS HJ k0 k1 k2 g0 g1 g2 l0 l1 l2 h0 h1 h2
    have HS := Lib.hid HS2
    clear HS2
    go_wp2_with fail
    have hW := blk3_set HS.out.1 (.int .u64 (d : Int)) (.int .u64 (e' : Int)) (.int .u64 ((f : Int) % 4))
    refine bodyPost_ret (v := .agg #[.int .u64 (d : Int), .int .u64 (e' : Int), .int .u64 ((f : Int) % 4)]) (results_row Tryz.results89 _ _ (w.heap.size + 1) rfl _ _ hW Tryz.underlying140 rfl info3) rfl ?_
    exact ⟨by rw [HVp.out], grow3 HS.out.2 (by omega) _ _ _⟩
  · have qn : ¬ (0 : Int) < (f : Int) / 4 := by omega
    have HVp := Lib.hid (HV2.out h4)
    clear HV1 HV2 h4
    go_wp2_with fail
    have hW := blk3_set HJ.out.1 (.int .u64 (p : Int)) (.int .u64 (q : Int)) (.int .u64 (r : Int))
    refine bodyPost_ret (v := .agg #[.int .u64 (p : Int), .int .u64 (q : Int), .int .u64 (r : Int)]) (results_row Tryz.results89 _ _ (w.heap.size + 1) rfl _ _ hW Tryz.underlying140 rfl info3) rfl ?_
    exact ⟨by rw [HVp.out], grow3 HJ.out.2.2 (by omega) _ _ _⟩

end Go.Proofs.YtffeekfofbcobaaGreat
