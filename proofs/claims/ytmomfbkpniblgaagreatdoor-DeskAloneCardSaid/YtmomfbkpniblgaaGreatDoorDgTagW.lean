/- Poly1305: tags: the walk. -/
import Derived.Test.YtmomfbkpniblgaaGreatDoorDg21
namespace Go.Proofs.YtmomfbkpniblgaaGreatDoor
open Go.RowKit
set_option linter.unusedVariables false
attribute [local go_sem ↓] Go.wp_at_zero Go.wp_at_succ

theorem part_gen {G : World → Prop} (w wr : World) (B A : Nat) (us vs : List Value) (a b c : Value) (hg : w.grownBy wr none) (hR : Blk wr B 148 us) (hA : Blk wr A 150 vs)
    (h : ∀ y : World, w.grownBy y none → Blk y B 148 us → Blk y A 150 vs → Blk y wr.heap.size 150 [a, b, c] → G y) : G (wr.alloc (.cells #[a, b, c] 150)) :=
  h _ (grow_alloc hg _) (hR.kept (World.grownBy_alloc _ _ none) nofun) (hA.kept (World.grownBy_alloc _ _ none) nofun) (obj_new wr _)

def textLen : Value → Nat | .string s => s.data.size | _ => 0

theorem pmul_lt (x r : Nat) : pmul x r < 2722258935367507707706996859454145691648 := by
  have : ∀ y, pfold y < 2722258935367507707706996859454145691648 := fun y => by unfold pfold; omega
  exact this _

theorem tag_next (X R : Nat) (c : UInt8) (l pt : List UInt8) (m a : Nat) (hm : m = min 16 (l.length + 1)) (hpt : pt = (c :: l).take m ++ [1]) (hacc : X = pacc R ((c :: l).length + 1) a (c :: l)) :
    X = pacc R (((c :: l).drop m).length + 1) (pmul (a + leN pt) R) ((c :: l).drop m) := by
  have h1 : (c :: l).take m = (c :: l).take 16 := by
    by_cases h : 16 ≤ l.length + 1
    · rw [hm, Nat.min_eq_left h]
    · rw [hm, Nat.min_eq_right (by omega), List.take_of_length_le (by simp), List.take_of_length_le (by simp; omega)]
  have h2 : (c :: l).drop m = (c :: l).drop 16 := by
    by_cases h : 16 ≤ l.length + 1
    · rw [hm, Nat.min_eq_left h]
    · rw [hm, Nat.min_eq_right (by omega), List.drop_of_length_le (by simp), List.drop_of_length_le (by simp; omega)]
  rw [h2, hpt, h1, hacc]
  exact pacc_step R a (c :: l) (by simp)

theorem tag_str (c : UInt8) (l : List UInt8) (m : Nat) : Value.string ⟨(List.take (l.length + 1 - m) (List.drop m (c :: l))).toArray⟩ = .string ⟨(List.drop m (c :: l)).toArray⟩ := by
  rw [List.take_of_length_le (by simp)]

theorem tag_measure (c : UInt8) (l : List UInt8) (m : Nat) (h : 0 < m) (h1 : m ≤ l.length + 1) : textLen (.string ⟨(List.take (l.length + 1 - m) (List.drop m (c :: l))).toArray⟩) < textLen (.string ⟨(c :: l).toArray⟩) := by
  rw [tag_str]
  simp only [textLen, List.size_toArray, List.length_drop, List.length_cons]
  omega

theorem blk_set3 {w : World} {B A : Nat} {t : TypeId} {vs : List Value} (h : Blk w B t vs) (hne : B ≠ A) (p q r : Value) : Blk (((w.setCell ⟨A, 0, none⟩ p).setCell ⟨A, 1, none⟩ q).setCell ⟨A, 2, none⟩ r) B t vs :=
  h.kept (r := some A) (grow_setCell (grow_setCell (grow_setCell (grow_refl _ _) _ _) _ _) _ _) (by simpa using hne)

theorem tag_end {G : World → Prop} (w w6 : World) (A : Nat) (p q s a b c : Value) (hg : w.grownBy w6 none) (hS : Blk w6 A 150 [a, b, c]) (hA : w.heap.size ≤ A)
    (h : ∀ y : World, w.grownBy y none → Blk y A 150 [p, q, s] → G y) : G (((w6.setCell ⟨A, 0, none⟩ p).setCell ⟨A, 1, none⟩ q).setCell ⟨A, 2, none⟩ s) :=
  h _ (grow3 hg hA _ _ _) (blk3_set hS _ _ _)

theorem drew_gen {G : World → Prop} (w : World) (o : Obj) (h : ∀ x : World, w.grownBy x none → x.heap[w.heap.size]? = some o → G x) : G ((w.alloc o).drew) :=
  h _ (grow_drew (grow_alloc (grow_refl w none) _)) (obj_new w o)

set_option maxRecDepth 20000 in
set_option maxHeartbeats 2000000 in
theorem code_ptag (w : World) (key text : List UInt8) (hk : key.length = 32) (ht : text.length ≤ 9223372036854775807) :
    Calls Tryz.prog 56 #[S key, S text] w (Grown (.tuple #[S (tagL key text), .int .i64 0]) w) := by
  obtain ⟨V, hV⟩ : ∃ V, V = tagL key text := ⟨_, rfl⟩
  rw [← hV]
  have HV := Lib.hid hV
  obtain ⟨n1, hn1⟩ : ∃ n, n = leN (key.take 8) := ⟨_, rfl⟩
  obtain ⟨n2, hn2⟩ : ∃ n, n = leN ((key.drop 8).take 8) := ⟨_, rfl⟩
  have x1 : n1 < 18446744073709551616 := hn1 ▸ leN_lt8 _ (by rw [List.length_take]; omega)
  have x2 : n2 < 18446744073709551616 := hn2 ▸ leN_lt8 _ (by rw [List.length_take]; omega)
  have L1 : ∀ W : World, Calls Tryz.prog 92 #[.string ⟨(key.take 8).toArray⟩] W fun e w' => e = .returned (.int .u64 (n1 : Int)) ∧ W = w' := by
    intro W
    have := wire_little W (key.take 8) (by rw [List.length_take]; omega)
    rwa [List.take_take, Nat.min_self, ← hn1] at this
  have L2 : ∀ W : World, Calls Tryz.prog 92 #[.string ⟨((key.drop 8).take 8).toArray⟩] W fun e w' => e = .returned (.int .u64 (n2 : Int)) ∧ W = w' := by
    intro W
    have := wire_little W ((key.drop 8).take 8) (by rw [List.length_take]; omega)
    rwa [List.take_take, Nat.min_self, ← hn2] at this
  have M1 : bits .and .u64 (n1 : Int) 1152921487695413247 = ((n1 &&& 1152921487695413247 : Nat) : Int) := u64_and_nat n1 1152921487695413247 x1 (by omega)
  have M2 : bits .and .u64 (n2 : Int) 1152921487695413244 = ((n2 &&& 1152921487695413244 : Nat) : Int) := u64_and_nat n2 1152921487695413244 x2 (by omega)
  have y1 : n1 &&& 1152921487695413247 < 18446744073709551616 := Nat.lt_of_le_of_lt Nat.and_le_left x1
  have y2 : n2 &&& 1152921487695413244 < 18446744073709551616 := Nat.lt_of_le_of_lt Nat.and_le_left x2
  have hr : polyR key = (n1 &&& 1152921487695413247) + 18446744073709551616 * (n2 &&& 1152921487695413244) := by rw [hn1, hn2]; rfl
  generalize n1 &&& 1152921487695413247 = b0 at *
  generalize n2 &&& 1152921487695413244 = b1 at *
  have HR := Lib.hid hr
  have q1 : ((key.length : Int) != 32) = false := by simp; omega
  have r1 := rule_app
  have r2 := rule_ext
  clear hV hn1 hn2 hr
  unfold S at ⊢
  go_enter Tryz.func56, Tryz.ntmps56
  go_wp2_with fail
  go_region_held3 (fun _ => True) (first | trivial)
    (first
     | (go_at_call 92; (with_reducible refine (L1 _).mono ?_); rintro e w1 ⟨rfl, rfl⟩)
     | (go_at_call 92; (with_reducible refine (L2 _).mono ?_); rintro e w2 ⟨rfl, rfl⟩))
  all_goals
    refine drew_gen w _ fun x g0 k0 => ?_
    have R0 : Blk x w.heap.size 148 [.int .u64 (b0 : Int), .int .u64 (b1 : Int)] := k0
    have hRl := R0.lt
    clear k0 L1 L2 M1 M2 q1 x1 x2
    have HRl := Lib.hid hRl
    clear hRl
    go_wp2_with fail
    have hA0 : Blk (x.alloc (.cells #[.int .u64 0, .int .u64 0, .int .u64 0] 150)) x.heap.size 150 [.int .u64 ((0 : Nat) : Int), .int .u64 ((0 : Nat) : Int), .int .u64 ((0 : Nat) : Int)] := obj_new x _
    have hR0 : Blk (x.alloc (.cells #[.int .u64 0, .int .u64 0, .int .u64 0] 150)) w.heap.size 148 [.int .u64 (b0 : Int), .int .u64 (b1 : Int)] := R0.kept (World.grownBy_alloc _ _ none) nofun
    have hG0 := grow_alloc g0 (.cells #[.int .u64 0, .int .u64 0, .int .u64 0] 150)
    go_loopw [1] (fun vt wr => ∃ (rest : List UInt8) (a p q s : Nat), vt = .string ⟨rest.toArray⟩ ∧ rest.length ≤ text.length ∧ a < 2722258935367507707706996859454145691648 ∧ N3 a = .agg #[.int .u64 (p : Int), .int .u64 (q : Int), .int .u64 (s : Int)] ∧ pacc (polyR key) (text.length + 1) 0 text = pacc (polyR key) (rest.length + 1) a rest ∧ w.grownBy wr none ∧ Blk wr w.heap.size 148 [.int .u64 (b0 : Int), .int .u64 (b1 : Int)] ∧ Blk wr x.heap.size 150 [.int .u64 (p : Int), .int .u64 (q : Int), .int .u64 (s : Int)]) (fun vt _ => textLen vt)
    case atStart => exact ⟨text, 0, 0, 0, 0, rfl, Nat.le_refl _, by omega, rfl, rfl, hG0, hR0, hA0⟩
    case round =>
      obtain ⟨rest, a, p, q, s, rfl, hrl, ha, hN, hacc, hg, hR, hA⟩ := hrel
      rcases rest with _ | ⟨c, l⟩
      · have hz : polyA key text = pleast a := by
          unfold polyA
          rw [hacc, pacc_nil]
        obtain ⟨n5, hn5⟩ : ∃ n, n = leN ((key.drop 16).take 8) := ⟨_, rfl⟩
        obtain ⟨n6, hn6⟩ : ∃ n, n = leN ((key.drop 24).take 8) := ⟨_, rfl⟩
        have x5 : n5 < 18446744073709551616 := hn5 ▸ leN_lt8 _ (by rw [List.length_take]; omega)
        have x6 : n6 < 18446744073709551616 := hn6 ▸ leN_lt8 _ (by rw [List.length_take]; omega)
        have L5 : ∀ W : World, Calls Tryz.prog 92 #[.string ⟨((key.drop 16).take 8).toArray⟩] W fun e w' => e = .returned (.int .u64 (n5 : Int)) ∧ W = w' := by
          intro W
          have := wire_little W ((key.drop 16).take 8) (by rw [List.length_take]; omega)
          rwa [List.take_take, Nat.min_self, ← hn5] at this
        have L6 : ∀ W : World, Calls Tryz.prog 92 #[.string ⟨((key.drop 24).take 8).toArray⟩] W fun e w' => e = .returned (.int .u64 (n6 : Int)) ∧ W = w' := by
          intro W
          have := wire_little W ((key.drop 24).take 8) (by rw [List.length_take]; omega)
          rwa [List.take_take, Nat.min_self, ← hn6] at this
        have hN2 : polyN key = n5 + 18446744073709551616 * n6 := by rw [hn5, hn6]; rfl
        obtain ⟨z0, z1, hz0, hz1⟩ : ∃ z0 z1, z0 = (polyA key text + polyN key) % 18446744073709551616 ∧ z1 = (polyA key text + polyN key) / 18446744073709551616 % 18446744073709551616 := ⟨_, _, rfl, rfl⟩
        have hVV : V = leB z0 8 ++ leB z1 8 := by rw [HV.out, hz0, hz1]; rfl
        obtain ⟨p3, q3, s3, h3⟩ := N3_atoms (pleast a)
        have A3 : ∀ W : World, Calls Tryz.prog 95 #[.agg #[.int .u64 (p : Int), .int .u64 (q : Int), .int .u64 (s : Int)]] W (Grown (.agg #[.int .u64 (p3 : Int), .int .u64 (q3 : Int), .int .u64 (s3 : Int)]) W) := by
          intro W
          have := code_pleast W a (by omega)
          rwa [hN, h3] at this
        obtain ⟨z2, h4⟩ : ∃ z2 : Nat, N3 (pleast a + polyN key) = .agg #[.int .u64 (z0 : Int), .int .u64 (z1 : Int), .int .u64 (z2 : Int)] := ⟨_, by rw [hz0, hz1, hz]; rfl⟩
        have A4 : ∀ W : World, Calls Tryz.prog 93 #[.agg #[.int .u64 (p3 : Int), .int .u64 (q3 : Int), .int .u64 (s3 : Int)], .agg #[.int .u64 (n5 : Int), .int .u64 (n6 : Int), .int .u64 0]] W (Grown (.agg #[.int .u64 (z0 : Int), .int .u64 (z1 : Int), .int .u64 (z2 : Int)]) W) := by
          intro W
          have := code_pplus W (pleast a) (polyN key)
          rw [h4, h3, hN2, N3_two n5 n6 x5 x6] at this
          exact this
        have y0 : z0 < 18446744073709551616 := by omega
        have y3 : z1 < 18446744073709551616 := by omega
        have HVV := Lib.hid hVV
        have G0 := hg
        have S0 := hA
        obtain ⟨⟨o0, o1, o2⟩, nf0, nf1, nf2⟩ := blk3 hA
        clear hVV hz hn5 hn6 hN2 hz0 hz1 h3 h4 hN hacc hR hg hA x5 x6 HR hA0 hR0 hG0 g0 R0 ha
        go_wp2_with fail
        go_region_with
          (first
            | (go_at_call 92; (with_reducible refine (L5 _).mono ?_); rintro e w3 ⟨rfl, rfl⟩)
            | (go_at_call 92; (with_reducible refine (L6 _).mono ?_); rintro e w4 ⟨rfl, rfl⟩)
            | (go_at_call 95; (with_reducible refine (A3 _).mono ?_); rintro e w5 ⟨rfl, hg5⟩; have G5 := grow_trans (grow_drew G0) hg5; have S5 := Blk.kept (Blk.drew S0) hg5 nofun)
            | (go_at_call 93; (with_reducible refine (A4 _).mono ?_); rintro e w6 ⟨rfl, hg6⟩; have G6 := grow_trans G5 hg6; have S6 := Blk.kept S5 hg6 nofun; obtain ⟨⟨nc0, nc1, nc2⟩, nf0, nf1, nf2⟩ := blk3 S6))
        all_goals
          refine tag_end w w6 x.heap.size _ _ _ _ _ _ G6 S6 (by have := HRl.out; omega) fun y gy Sy => ?_
          clear A3 A4 L5 L6 G6 S6 G5 S5 nc0 nc1 nc2 nf0 nf1 nf2 o0 o1 o2 hg5 hg6 G0 S0
          obtain ⟨⟨k0, k1, k2⟩, _⟩ := blk3 Sy
          have hyl := Sy.lt
          have AL1 : ∀ W : World, Calls Tryz.prog 96 #[.slice none 0 0, .int .u64 (z0 : Int), .int .i64 8] W (OwnBytesN W W.heap.size (leB z0 8)) := fun W => wire_appendLittle W W.heap.size (.slice none 0 0) [] z0 8 (brow_nil _ _) y0 (by omega) (by simp) (Nat.le_refl _)
          have AL2 : ∀ (W : World) (b : Nat) (v : Value), brow W b v (leB z0 8) → b ≤ W.heap.size → Calls Tryz.prog 96 #[v, .int .u64 (z1 : Int), .int .i64 8] W (OwnBytesN W b V) := fun W b v h1 h2 => by
            rw [HVV.out]
            exact wire_appendLittle W b v (leB z0 8) z1 8 h1 y3 (by omega) (by rw [leB_length]; omega) h2
          go_wp2_with fail
          go_region_with
            (first
              | (go_at_call 96; (with_reducible refine (AL1 _).mono ?_); rintro e w7 ⟨t1, rfl, hb1, hB1⟩; have k1' := (hB1.cell (p := ⟨x.heap.size, 1, none⟩) hyl).trans k1)
              | (go_at_call 96; (with_reducible refine (AL2 _ _ _ hb1 hB1.size).mono ?_); rintro e w8 ⟨t2, rfl, hb2, hB2⟩; have hc := conv_brow hb2; unfold S at hc))
          all_goals
            clear AL1 AL2
            go_wp2_with fail
            go_ret2
            exact ⟨rfl, grow_trans (grow_drew gy) (grow_of_below (hB1.trans hB2))⟩
      · obtain ⟨m, hm, m16, ml, e1⟩ : ∃ m : Nat, m = min 16 (l.length + 1) ∧ m ≤ 16 ∧ m ≤ l.length + 1 ∧ min (16 : Int) ((l.length : Int) + 1) = (m : Int) := ⟨_, rfl, by omega, by omega, by omega⟩
        have m0 : 0 < m := by omega
        obtain ⟨pt, hpt⟩ : ∃ pt, pt = (c :: l).take m ++ [1] := ⟨_, rfl⟩
        have lpt : pt.length = m + 1 := by rw [hpt, List.length_append, List.length_take, List.length_cons]; simp; omega
        obtain ⟨k, hk8, kk, e3⟩ : ∃ k : Nat, k ≤ 8 ∧ pt.take k = pt.take 8 ∧ min (8 : Int) ((m : Int) + 1) = (k : Int) := ⟨min 8 (m + 1), by omega, by rw [← lpt, ← List.take_take, List.take_length], by omega⟩
        obtain ⟨c0, hc0⟩ : ∃ c0, c0 = leN (pt.take 8) := ⟨_, rfl⟩
        have lc0 : c0 < 18446744073709551616 := hc0 ▸ leN_lt8 _ (by rw [List.length_take]; omega)
        have L3 : ∀ W : World, Calls Tryz.prog 92 #[.string ⟨(pt.take k).toArray⟩] W fun e w' => e = .returned (.int .u64 (c0 : Int)) ∧ W = w' := by
          intro W
          have := wire_little W (pt.take k) (by rw [List.length_take]; omega)
          rwa [kk, List.take_take, Nat.min_self, ← hc0, ← kk] at this
        have hfl : ((c :: l).take m).length = m := by rw [List.length_take, List.length_cons]; omega
        have hpn := ptag_num _ pt hpt (by omega)
        rw [hfl] at hpn
        have hpz : m < 8 → leN ((pt.drop 8).take 8) = 0 := fun h => ptag_zero _ pt hpt (by omega)
        have hplt := ptag_lt _ pt hpt (by omega)
        have hsum : a + leN pt < 6277101735386680763835789423207666416102355444464034512896 := by omega
        obtain ⟨dd1, hd1⟩ : ∃ d, d = leN ((pt.drop 8).take 8) := ⟨_, rfl⟩
        obtain ⟨dd2, hd2⟩ : ∃ d : Nat, d = if m = 16 then 1 else 0 := ⟨_, rfl⟩
        rw [← hc0, ← hd1, ← hd2] at hpn
        rw [← hd1] at hpz
        obtain ⟨p1, q1, s1, p2, q2, s2, hM, A1, A2⟩ := round_calls a (leN pt) p q s c0 dd1 dd2 b0 b1 hN hpn hsum y1 y2
        have HM2 := Lib.hid hM
        have HD1 := Lib.hid hd1
        clear hM hpn hsum hplt
        have HC0 := Lib.hid hc0
        have HK := Lib.hid kk
        have HM := Lib.hid hm
        have hpt' := hpt.symm
        have HPT := Lib.hid hpt
        have HACC := Lib.hid hacc
        have HN := Lib.hid hN
        clear hc0 kk hm hpt hacc hN
        by_cases h8 : m < 8
        · obtain rfl : dd1 = 0 := hpz h8
          obtain rfl : dd2 = 0 := by rw [hd2, if_neg (by omega)]
          rw [show ((0 : Nat) : Int) = 0 from rfl] at A1
          clear hd1 hd2 hpz
          have t8 : ¬ ((8 : Int) < (m : Int) + 1) := by omega
          have t16 : ¬ ((16 : Int) < (m : Int) + 1) := by omega
          go_wp2_with fail
          refine (L3 _).mono ?_
          rintro e w3 ⟨rfl, rfl⟩
          go_wp2_with fail
          refine part_gen w wr w.heap.size x.heap.size _ _ _ _ _ hg hR hA fun y gy Ry Ay Ny => ?_
          have hlr := hR.lt
          have hla := hA.lt
          clear hg hR hA L3 g0 R0 hA0 hR0 hG0
          obtain ⟨⟨o0, o1, o2⟩, _⟩ := blk3 Ay
          obtain ⟨⟨v0, v1, v2⟩, _⟩ := blk3 Ny
          have o3 := Ry.cell 0
          have o4 := Ry.cell 1
          have G0 : w.grownBy y.drew none := grow_drew gy
          have S0 : Blk y.drew x.heap.size 150 _ := Ay
          have T0 : Blk y.drew w.heap.size 148 _ := Ry
          clear Ry Ay Ny gy
          go_region_with
            (first
              | (go_at_call 93; (with_reducible refine (A1 _).mono ?_); rintro e w5 ⟨rfl, hg5⟩; have n3 := hg5.cell (a := ⟨w.heap.size, 0, none⟩) o3 nofun; have n4 := hg5.cell (a := ⟨w.heap.size, 1, none⟩) o4 nofun; have G5 := grow_trans G0 hg5; have S5 := Blk.kept S0 hg5 nofun; have T5 := Blk.kept T0 hg5 nofun)
              | (go_at_call 94; (with_reducible refine (A2 _).mono ?_); rintro e w6 ⟨rfl, hg6⟩; have G6 := grow_trans G5 hg6; have S6 := Blk.kept S5 hg6 nofun; have T6 := Blk.kept T5 hg6 nofun; obtain ⟨⟨nc0, nc1, nc2⟩, nf0, nf1, nf2⟩ := blk3 S6))
          all_goals
            clear A1 A2 nc0 nc1 nc2 nf0 nf1 nf2 n3 n4 o0 o1 o2 o3 o4 v0 v1 v2
            go_wp2_with fail
            go_roundw
            case rel => exact ⟨_, _, p2, q2, s2, tag_str c l m, by rw [List.length_drop]; omega, pmul_lt _ _, (by rw [HR.out]; exact HM2.out), tag_next _ _ c l pt m a HM.out HPT.out HACC.out, grow3 G6 (by have := HRl.out; omega) _ _ _, blk_set3 T6 (by have := HRl.out; omega) _ _ _, blk3_set S6 _ _ _⟩
            case measure => exact tag_measure c l m m0 ml
        · clear hpz
          have t8 : (8 : Int) < (m : Int) + 1 := by omega
          obtain ⟨k2, e4, k28, ek2⟩ : ∃ k2 : Nat, min (16 : Int) ((m : Int) + 1) = (k2 : Int) ∧ 8 ≤ k2 ∧ (pt.drop 8).take (k2 - 8) = (pt.drop 8).take 8 := ⟨min 16 (m + 1), by omega, by omega, by
            by_cases q : 16 ≤ m + 1
            · rw [Nat.min_eq_left q]
            · rw [Nat.min_eq_right (by omega), List.take_of_length_le (by rw [List.length_drop]; omega), List.take_of_length_le (by rw [List.length_drop]; omega)]⟩
          have lc1 : dd1 < 18446744073709551616 := hd1 ▸ leN_lt8 _ (by rw [List.length_take]; omega)
          have L4 : ∀ W : World, Calls Tryz.prog 92 #[.string ⟨((pt.drop 8).take (k2 - 8)).toArray⟩] W fun e w' => e = .returned (.int .u64 (dd1 : Int)) ∧ W = w' := by
            intro W
            have := wire_little W ((pt.drop 8).take (k2 - 8)) (by rw [List.length_take, List.length_drop]; omega)
            rwa [ek2, List.take_take, Nat.min_self, ← hd1, ← ek2] at this
          clear hd1 ek2
          by_cases h16 : m < 16
          · obtain rfl : dd2 = 0 := by rw [hd2, if_neg (by omega)]
            rw [show ((0 : Nat) : Int) = 0 from rfl] at A1
            clear hd2
            have t16 : ¬ ((16 : Int) < (m : Int) + 1) := by omega
            go_wp2_with fail
            refine (L3 _).mono ?_
            rintro e w3 ⟨rfl, rfl⟩
            go_wp2_with fail
            refine (L4 _).mono ?_
            rintro e w4 ⟨rfl, rfl⟩
            go_wp2_with fail
            refine part_gen w wr w.heap.size x.heap.size _ _ _ _ _ hg hR hA fun y gy Ry Ay Ny => ?_
            have hlr := hR.lt
            have hla := hA.lt
            clear hg hR hA L3 g0 R0 hA0 hR0 hG0
            obtain ⟨⟨o0, o1, o2⟩, _⟩ := blk3 Ay
            obtain ⟨⟨v0, v1, v2⟩, _⟩ := blk3 Ny
            have o3 := Ry.cell 0
            have o4 := Ry.cell 1
            have G0 : w.grownBy y.drew none := grow_drew gy
            have S0 : Blk y.drew x.heap.size 150 _ := Ay
            have T0 : Blk y.drew w.heap.size 148 _ := Ry
            clear Ry Ay Ny gy
            go_region_with
              (first
                | (go_at_call 93; (with_reducible refine (A1 _).mono ?_); rintro e w5 ⟨rfl, hg5⟩; have n3 := hg5.cell (a := ⟨w.heap.size, 0, none⟩) o3 nofun; have n4 := hg5.cell (a := ⟨w.heap.size, 1, none⟩) o4 nofun; have G5 := grow_trans G0 hg5; have S5 := Blk.kept S0 hg5 nofun; have T5 := Blk.kept T0 hg5 nofun)
                | (go_at_call 94; (with_reducible refine (A2 _).mono ?_); rintro e w6 ⟨rfl, hg6⟩; have G6 := grow_trans G5 hg6; have S6 := Blk.kept S5 hg6 nofun; have T6 := Blk.kept T5 hg6 nofun; obtain ⟨⟨nc0, nc1, nc2⟩, nf0, nf1, nf2⟩ := blk3 S6))
            all_goals
              clear A1 A2 nc0 nc1 nc2 nf0 nf1 nf2 n3 n4 o0 o1 o2 o3 o4 v0 v1 v2
              go_wp2_with fail
              go_roundw
              case rel => exact ⟨_, _, p2, q2, s2, tag_str c l m, by rw [List.length_drop]; omega, pmul_lt _ _, (by rw [HR.out]; exact HM2.out), tag_next _ _ c l pt m a HM.out HPT.out HACC.out, grow3 G6 (by have := HRl.out; omega) _ _ _, blk_set3 T6 (by have := HRl.out; omega) _ _ _, blk3_set S6 _ _ _⟩
              case measure => exact tag_measure c l m m0 ml
          · obtain rfl : dd2 = 1 := by rw [hd2, if_pos (by omega)]
            rw [show ((1 : Nat) : Int) = 1 from rfl] at A1
            clear hd2
            have t16 : (16 : Int) < (m : Int) + 1 := by omega
            go_wp2_with fail
            refine (L3 _).mono ?_
            rintro e w3 ⟨rfl, rfl⟩
            go_wp2_with fail
            refine (L4 _).mono ?_
            rintro e w4 ⟨rfl, rfl⟩
            go_wp2_with fail
            refine part_gen w wr w.heap.size x.heap.size _ _ _ _ _ hg hR hA fun y gy Ry Ay Ny => ?_
            have hlr := hR.lt
            have hla := hA.lt
            clear hg hR hA L3 g0 R0 hA0 hR0 hG0
            obtain ⟨⟨o0, o1, o2⟩, _⟩ := blk3 Ay
            obtain ⟨⟨v0, v1, v2⟩, _⟩ := blk3 Ny
            have o3 := Ry.cell 0
            have o4 := Ry.cell 1
            have G0 : w.grownBy y.drew none := grow_drew gy
            have S0 : Blk y.drew x.heap.size 150 _ := Ay
            have T0 : Blk y.drew w.heap.size 148 _ := Ry
            clear Ry Ay Ny gy
            go_region_with
              (first
                | (go_at_call 93; (with_reducible refine (A1 _).mono ?_); rintro e w5 ⟨rfl, hg5⟩; have n3 := hg5.cell (a := ⟨w.heap.size, 0, none⟩) o3 nofun; have n4 := hg5.cell (a := ⟨w.heap.size, 1, none⟩) o4 nofun; have G5 := grow_trans G0 hg5; have S5 := Blk.kept S0 hg5 nofun; have T5 := Blk.kept T0 hg5 nofun)
                | (go_at_call 94; (with_reducible refine (A2 _).mono ?_); rintro e w6 ⟨rfl, hg6⟩; have G6 := grow_trans G5 hg6; have S6 := Blk.kept S5 hg6 nofun; have T6 := Blk.kept T5 hg6 nofun; obtain ⟨⟨nc0, nc1, nc2⟩, nf0, nf1, nf2⟩ := blk3 S6))
            all_goals
              clear A1 A2 nc0 nc1 nc2 nf0 nf1 nf2 n3 n4 o0 o1 o2 o3 o4 v0 v1 v2
              go_wp2_with fail
              go_roundw
              case rel => exact ⟨_, _, p2, q2, s2, tag_str c l m, by rw [List.length_drop]; omega, pmul_lt _ _, (by rw [HR.out]; exact HM2.out), tag_next _ _ c l pt m a HM.out HPT.out HACC.out, grow3 G6 (by have := HRl.out; omega) _ _ _, blk_set3 T6 (by have := HRl.out; omega) _ _ _, blk3_set S6 _ _ _⟩
              case measure => exact tag_measure c l m m0 ml

end Go.Proofs.YtmomfbkpniblgaaGreatDoor
