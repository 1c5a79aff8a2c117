/- The walk of PathsOver. -/
import Derived.Test.YtbkgfpebffmffaaPathsDropsLaw
namespace Go.Proofs.Ytbkgfpebffmffaa
open Go.RowKit
set_option linter.unusedVariables false

theorem IsRecs.later {ks : List Lk} {w w' : World} {a : Option Addr} {len cap : Nat} (h : IsRecs ks w a len cap) (g : w.grownBy w' none) : IsRecs ks w' a len cap := by
  rcases h with h | ⟨x, hx, h1, h2, h3⟩
  · exact Or.inl h
  · refine Or.inr ⟨x, hx, h1, h2, fun i hi j k hk => ?_⟩
    obtain ⟨v, hv, hl⟩ := h3 i hi j k hk
    exact ⟨v, g.cell hv (by simp), hl⟩
theorem setTo_code (O : Own) (a : Nat) (y v : Int) : (setTo O a y v).1 = 0 ∨ ((setTo O a y v).1 ≠ 0 ∧ (setTo O a y v).2 = O) := by
  unfold setTo
  split
  · exact Or.inr ⟨by show (_ : Int) ≠ 0; omega, rfl⟩
  · split
    · exact Or.inr ⟨by show (_ : Int) ≠ 0; omega, rfl⟩
    · split
      · exact Or.inl rfl
      · split
        · exact Or.inr ⟨by show (_ : Int) ≠ 0; omega, rfl⟩
        · exact Or.inl rfl
/-- Where one was set. -/
theorem setTo_ok {O : Own} {a : Nat} {y v : Int} (h : (setTo O a y v).1 = 0) : ∃ n : Nat, y = (n : Int) ∧ n ≤ 32 ∧ 0 ≤ v ∧ v < 8 ∧ a * 2 ^ n % 4294967296 = 0 ∧ (setTo O a y v).2 = setO O (bitsA a n) v := by
  by_cases h1 : y < 0 ∨ 32 < y ∨ v < 0 ∨ 8 ≤ v
  · have e : setTo O a y v = (1, O) := if_pos h1
    rw [e] at h; cases h
  · obtain ⟨n, rfl, hn⟩ : ∃ n : Nat, y = (n : Int) ∧ n ≤ 32 := ⟨y.toNat, by omega, by omega⟩
    have e : setTo O a (n : Int) v = if a * 2 ^ n % 4294967296 ≠ 0 then ((5 : Int), O) else match O (bitsA a n) with
      | some _ => ((0 : Int), setO O (bitsA a n) v)
      | none => if (allP O).length = 64 then (9, O) else (0, setO O (bitsA a n) v) := if_neg h1
    rw [e] at h ⊢
    by_cases h2 : a * 2 ^ n % 4294967296 = 0
    · rw [if_neg (by simpa using h2)] at h ⊢
      refine ⟨n, rfl, hn, by omega, by omega, h2, ?_⟩
      split at h
      · rfl
      · split at h
        · cases h
        · rename_i h3; rw [if_neg h3]
    · rw [if_pos h2] at h; cases h
theorem setTo_again {O : Own} {a n : Nat} {u v : Int} (hn : n ≤ 32) (h0 : a * 2 ^ n % 4294967296 = 0) (h : O (bitsA a n) = some u) (hv : 0 ≤ v ∧ v < 8) : setTo O a (n : Int) v = (0, setO O (bitsA a n) v) := by
  have h1 : ¬ ((n : Int) < 0 ∨ 32 < (n : Int) ∨ v < 0 ∨ 8 ≤ v) := by omega
  have e : setTo O a (n : Int) v = if a * 2 ^ n % 4294967296 ≠ 0 then ((5 : Int), O) else match O (bitsA a n) with
    | some _ => ((0 : Int), setO O (bitsA a n) v)
    | none => if (allP O).length = 64 then (9, O) else (0, setO O (bitsA a n) v) := if_neg h1
  rw [e, if_neg (by simpa using h0), h]
theorem setTo_no (O : Own) (a : Nat) (y v : Int) (hv : ¬ (0 ≤ v ∧ v < 8)) : setTo O a y v = (1, O) := if_pos (by omega)

/-- What is shown of two lists, one of which has a prefix's owner anew. -/
structure Over (L1 L2 : List (Pf × Int)) (q : Pf) (b : Int) : Prop where
  len : L2.length = L1.length
  big : L1.length ≤ 64
  at_ : ∀ i (h1 : i < L1.length) (h2 : i < L2.length), L2[i] = (L1[i].1, if L1[i].1 = q then b else L1[i].2)
  sort : ∀ i (h : i + 1 < L1.length), ltP L1[i].1 L1[i + 1].1
  small : ∀ i (h1 : i < L1.length), L1[i].1.length ≤ 32
theorem over_of (O : Own) (q : Pf) (u b : Int) (h : O q = some u) (h64 : (allP O).length ≤ 64) : Over (allP O) (allP (setO O q b)) q b := by
  have e := all_set O q b u h
  refine ⟨by rw [e, List.length_map], h64, fun i h1 h2 => ?_, fun i h => ?_, fun i h => ((allP_mem O _).1 (List.getElem_mem h)).1⟩
  · have : ∀ (l : List (Pf × Int)) (e : l = (allP O).map (fun x => (x.1, if x.1 = q then b else x.2))) (h2 : i < l.length), l[i] = ((allP O)[i].1, if (allP O)[i].1 = q then b else (allP O)[i].2) := by
      rintro l rfl h2
      rw [List.getElem_map]
    exact this _ e h2
  · exact List.pairwise_iff_getElem.1 (all_sorted O) i (i + 1) (by omega) h (by omega)

set_option maxRecDepth 20000 in
set_option maxHeartbeats 8000000 in
theorem walk_PathsOver (a0 : Option Addr) (len0 cap0 : Nat) (p0 p1 a2 a3 : Int) (y0 : (Lit.int .u32 p0).wf = true) (y1 : (Lit.int .i64 p1).wf = true) (w2 : (Lit.int .i64 a2).wf = true) (w3 : (Lit.int .i64 a3).wf = true) (w : World) (r0 : IsRecs stepKs w a0 len0 cap0) :
    Calls Try.prog 3 #[.slice a0 len0 cap0, .agg #[.int .u32 p0, .int .i64 p1], .int .i64 a2, .int .i64 a3] w fun e w' => e = .returned (.bool true) ∧ Below w.heap.size w w' := by
  obtain ⟨ad, rfl, had⟩ : ∃ z : Nat, p0 = (z : Int) ∧ z < 4294967296 := by have := bounds_u32 y0; exact ⟨p0.toNat, by omega, by omega⟩
  obtain ⟨W1, hW1⟩ : ∃ W1, W1 = w.alloc (.cells #[.int .u32 (ad : Int), .int .i64 p1] 25) := ⟨_, rfl⟩
  have gb : w.grownBy W1 none := by rw [hW1]; exact World.grownBy_alloc w _ none
  have A := code_kptable _ a0 len0 cap0 (r0.later gb)
  have hbp : Blk W1 w.heap.size 25 [.int .u32 (ad : Int), .int .i64 p1] := by rw [hW1]; exact Blk.new w _ _
  have HGB := Lib.hid gb
  have HW1 := Lib.hid hW1
  clear r0 y0 gb hW1
  go_enter Try.func3, Try.ntmps3
  go_wp2_with fail
  rw [← HW1.out]
  (with_reducible refine A.mono ?_)
  rintro e x1 ⟨tb, O, rfl, hT, hg1⟩
  have H1 := Lib.hid hT
  have G1 := Lib.hid hg1
  have HP := Lib.hid (hbp.kept hg1 (by simp))
  have A1 := code_ptset x1 _ tb O H1.out ad had p1 a2 y1 w2
  obtain ⟨c1, hc1⟩ : ∃ c, c = (setTo O ad p1 a2).1 := ⟨_, rfl⟩
  obtain ⟨O1, hO1⟩ : ∃ O1, O1 = (setTo O ad p1 a2).2 := ⟨_, rfl⟩
  rw [← hc1, ← hO1] at A1
  have k0 := HP.out.cell 0
  have k1 := HP.out.cell 1
  have HC1 := Lib.hid hc1
  have HO1 := Lib.hid hO1
  clear A hT hg1 hbp hc1 hO1 HW1
  go_wp2_with fail
  (with_reducible refine A1.mono ?_)
  rintro e x2 ⟨rfl, hT2, hg2⟩
  have H2 := Lib.hid hT2
  have G2 := Lib.hid (grow_GT G1.out hg2)
  have HP2 : Hid (Blk x2 w.heap.size 25 [.int .u32 (ad : Int), .int .i64 p1]) := Lib.hid (hg2.keep _ _ HP.out (not_IsN rfl (by decide) (by decide)))
  have A2 := code_ptall x2 _ tb O1 H2.out
  clear A1 H1 G1 HP hT2 hg2 k0 k1
  go_wp2_with fail
  (with_reducible refine A2.mono ?_)
  rintro e x3 ⟨v3, rfl, hrow3, hg3⟩
  have H3 := Lib.hid (H2.out.new hg3)
  have G3 := Lib.hid (grow_trans G2.out hg3)
  have HP3 := Lib.hid (HP2.out.kept hg3 (by simp))
  have R3 := Lib.hid hrow3
  have A3 := code_ptset x3 _ tb O1 H3.out ad had p1 a3 y1 w3
  obtain ⟨c2, hc2⟩ : ∃ c, c = (setTo O1 ad p1 a3).1 := ⟨_, rfl⟩
  obtain ⟨O2, hO2⟩ : ∃ O2, O2 = (setTo O1 ad p1 a3).2 := ⟨_, rfl⟩
  rw [← hc2, ← hO2] at A3
  have HC2 := Lib.hid hc2
  have HO2 := Lib.hid hO2
  have k0 := HP3.out.cell 0
  have k1 := HP3.out.cell 1
  clear A2 H2 G2 HP2 hg3 hrow3 hc2 hO2
  go_wp2_with fail
  (with_reducible refine A3.mono ?_)
  rintro e x4 ⟨rfl, hT4, hg4⟩
  have H4 := Lib.hid hT4
  have G4 := Lib.hid (grow_GT G3.out hg4)
  have HP4 : Hid (Blk x4 w.heap.size 25 [.int .u32 (ad : Int), .int .i64 p1]) := Lib.hid (hg4.keep _ _ HP3.out (not_IsN rfl (by decide) (by decide)))
  have R4 := Lib.hid (R3.out.pathsG hg4)
  have A4 := code_ptall x4 _ tb O2 H4.out
  have h64 : (allP O1).length ≤ 64 := by obtain ⟨_, _, _, _, _, _, h⟩ := H3.out; exact h
  clear A3 H3 G3 HP3 R3 hT4 hg4 k0 k1
  go_wp2_with fail
  (with_reducible refine A4.mono ?_)
  rintro e x5 ⟨v5, rfl, hrow5, hg5⟩
  have G5 := Lib.hid (grow_trans G4.out hg5)
  have HP5 := Lib.hid (HP4.out.kept hg5 (by simp))
  have R5 := Lib.hid (R4.out.keptN hg5)
  have S5 := Lib.hid hrow5.paths
  clear A4 H4 G4 HP4 R4 hrow5 hg5
  rcases setTo_code O ad p1 a2 with h1 | ⟨h1, h2⟩
  · obtain ⟨n, rfl, hn, hv0, hv1, hz, hs⟩ := setTo_ok h1
    rw [← HC1.out] at h1
    rw [← HO1.out] at hs
    subst h1
    have hOn : O1 (bitsA ad n) = some a2 := by rw [hs]; unfold setO; rw [if_pos rfl]
    by_cases hv : 0 ≤ a3 ∧ a3 < 8
    · have h3 := setTo_again hn hz hOn hv
      have e1 : c2 = 0 := by rw [HC2.out, h3]
      have e2 : O2 = setO O1 (bitsA ad n) a3 := by rw [HO2.out, h3]
      have hov := over_of O1 (bitsA ad n) a2 a3 hOn h64
      rw [← e2] at hov
      subst e1
      obtain ⟨ao, cap3, rfl, hcA⟩ := R5.out
      obtain ⟨bo, cap5, rfl, hcB⟩ := S5.out
      have HA := Lib.hid hcA
      have HB := Lib.hid hcB
      have hlen := hov.len
      have HOV := Lib.hid hov
      have q1 : (0 : Int) ≤ a3 := hv.1
      have q2 : a3 ≤ 7 := by omega
      have q3 : (((allP O1).length : Int) != ((allP O1).length : Int)) = false := by simp
      have q4 : ¬ ((64 : Int) < ((allP O1).length : Int)) := by omega
      rw [hlen]
      clear hs h3 e2 hov hcA hcB R5 S5 HC1 HO1 HC2 HO2 hOn hv
      obtain ⟨L1, hL1⟩ : ∃ L1, L1 = allP O1 := ⟨_, rfl⟩
      obtain ⟨L2, hL2⟩ : ∃ L2, L2 = allP O2 := ⟨_, rfl⟩
      have hl64 : L1.length ≤ 64 := by rw [hL1]; exact h64
      rw [← hL2, ← hL1] at hlen
      rw [← hL1] at HA HOV q3 q4 ⊢
      rw [← hL2] at HB HOV
      clear hL1 hL2 h64
      go_wp2_with fail
      go_loopw [69] (fun i wr => ∃ k : Nat, k ≤ L1.length ∧ i = .int .i64 k ∧ Hid (x5.grownBy wr none)) (fun i _ => L1.length - (intOf i).toNat)
      case atStart => exact ⟨0, by omega, rfl, Lib.hid (grow_refl _ _)⟩
      case round =>
        obtain ⟨k, hk, rfl, hg⟩ := hrel
        by_cases hlk : k < L1.length
        · obtain ⟨x, hx, _, hPx⟩ := HA.out k hlk
          obtain ⟨y, hy, _, hPy⟩ := HB.out k (by omega)
          subst hx hy
          obtain ⟨c0, c1, c2⟩ := hPx.kept hg.out (by simp)
          obtain ⟨d0, d1, d2⟩ := hPy.kept hg.out (by simp)
          have hb := HP5.out.kept hg.out (by simp)
          have k0 := hb.cell 0
          have k1 := hb.cell 1
          have hat := HOV.out.at_ k hlk (by omega)
          rw [hat] at d0 d1 d2
          dsimp only at d0 d1 d2
          have hk17 : ((addrP L1[k].1 : Int) = (ad : Int) ∧ (L1[k].1.length : Int) = (n : Int) ∧ (if L1[k].1 = bitsA ad n then a3 else L1[k].2) = a3) ∨ ((((addrP L1[k].1 : Int) == (ad : Int)) = false) ∧ (if L1[k].1 = bitsA ad n then a3 else L1[k].2) = L1[k].2) ∨ ((addrP L1[k].1 : Int) = (ad : Int) ∧ (((L1[k].1.length : Int) == (n : Int)) = false) ∧ (if L1[k].1 = bitsA ad n then a3 else L1[k].2) = L1[k].2) := by
            have h32 := HOV.out.small k hlk
            by_cases he : L1[k].1 = bitsA ad n
            · left
              rw [if_pos he, he, addr_bits ad n had hn hz, bitsA_length]
              exact ⟨rfl, rfl, rfl⟩
            · rw [if_neg he]
              by_cases h1 : addrP L1[k].1 = ad
              · refine Or.inr (Or.inr ⟨by rw [h1], ?_, rfl⟩)
                rw [beq_eq_false_iff_ne]
                intro h2
                have h2' : L1[k].1.length = n := by omega
                apply he
                have := bitsA_addr L1[k].1 h32
                rw [h1, h2'] at this
                exact this.symm
              · exact Or.inr (Or.inl ⟨by rw [beq_eq_false_iff_ne]; omega, rfl⟩)
          have hk19 : k = 0 ∨ ∃ m : Nat, k = m + 1 ∧ ∃ hm : m < L1.length, PathIn wr x m L1[m] ∧ ltP L1[m].1 L1[k].1 := by
            rcases Nat.eq_zero_or_pos k with h | h
            · exact Or.inl h
            · obtain ⟨m, rfl⟩ : ∃ m, k = m + 1 := ⟨k - 1, by omega⟩
              refine Or.inr ⟨m, rfl, by omega, ?_, HOV.out.sort m hlk⟩
              obtain ⟨x', hx', _, hP'⟩ := HA.out m (by omega)
              obtain rfl := Option.some.inj hx'
              exact hP'.kept hg.out (by simp)
          have hpl : L1[k].1.length ≤ 32 := HOV.out.small k hlk
          obtain ⟨px, hpx⟩ : ∃ px, px = L1[k] := ⟨_, rfl⟩
          rw [← hpx] at c0 c1 c2 d0 d1 d2 hk17 hk19 hpl
          generalize (if px.1 = bitsA ad n then a3 else px.2) = ow at *
          clear hPx hPy hb hat hpx hz
          have r0 : (a3 != a3) = false := by simp
          have r1 : (px.2 != px.2) = false := by simp
          have hk19 : (decide ((0 : Int) < (k : Int)) = false) ∨ ∃ (m : Nat) (A B : Int), IntKind.i64.wrap ((k : Int) - 1) = (m : Int) ∧ decide ((0 : Int) < (k : Int)) = true ∧ (0 : Int) ≤ (m : Int) ∧ m < L1.length ∧ wr.cell? (x.add (m * 3)) = some (.int .u32 A) ∧ wr.cell? ⟨(x.add (m * 3)).block, (x.add (m * 3)).off + 1, none⟩ = some (.int .i64 B) ∧
              ((decide ((addrP px.1 : Int) < A) = false ∧ (A == (addrP px.1 : Int)) = false) ∨ (decide ((addrP px.1 : Int) < A) = false ∧ (A == (addrP px.1 : Int)) = true ∧ decide ((px.1.length : Int) ≤ B) = false)) := by
            rcases hk19 with h0 | ⟨m, hm1, hml, ⟨m0, m1, m2⟩, hlt⟩
            · exact Or.inl (by simp; omega)
            · refine Or.inr ⟨m, _, _, ?_, by simp; omega, by omega, hml, m0, m1, ?_⟩
              · rw [show ((k : Int) - 1 : Int) = (m : Int) from by omega]
                exact IntWalk.i64_in _ (by omega)
              · rcases hlt with h | ⟨h, h2⟩
                · exact Or.inl ⟨by simp; omega, by rw [beq_eq_false_iff_ne]; omega⟩
                · exact Or.inr ⟨by simp; omega, by rw [h]; simp, by simp; omega⟩
          have key : Hid (∀ W : World, wr.grownBy W none → x5.grownBy W none) := Lib.hid (fun W h => grow_trans hg.out h)
          rcases hk17 with ⟨s1, s2, s3⟩ | ⟨s1, s3⟩ | ⟨s1, s2, s3⟩
          · rw [s1] at c0 d0
            rw [s2] at c1 d1
            rw [s1, s2] at hk19
            clear s1 s2
            subst s3
            go_wp2_with fail
            go_quiet (fail)
            go_wp2_with fail
            rcases hk19 with h0 | ⟨m, A, B, wk, kp, hm0, hml, m0, m1, hlt⟩
            · have z0 : ¬ (0 < k) := by simpa using h0
              have z1 : decide (0 < k) = false := by simpa using h0
              go_quiet (fail)
              go_wp2_with fail
              exact ⟨⟨k + 1, by omega, by go_num, Lib.hid (key.out _ (grow_drewN (grow_refl _ _) _))⟩, by simp [intOf]; omega⟩
            · have z0 : 0 < k := by simpa using kp
              have z1 : decide (0 < k) = true := by simpa using kp
              rcases hlt with ⟨u1, u2⟩ | ⟨u1, u2, u3⟩
              · go_quiet (fail)
                go_wp2_with fail
                exact ⟨⟨k + 1, by omega, by go_num, Lib.hid (key.out _ (grow_drewN (grow_refl _ _) _))⟩, by simp [intOf]; omega⟩
              · go_quiet (fail)
                go_wp2_with fail
                exact ⟨⟨k + 1, by omega, by go_num, Lib.hid (key.out _ (grow_drewN (grow_refl _ _) _))⟩, by simp [intOf]; omega⟩
          · subst s3
            go_wp2_with fail
            go_quiet (fail)
            go_wp2_with fail
            rcases hk19 with h0 | ⟨m, A, B, wk, kp, hm0, hml, m0, m1, hlt⟩
            · have z0 : ¬ (0 < k) := by simpa using h0
              have z1 : decide (0 < k) = false := by simpa using h0
              go_quiet (fail)
              go_wp2_with fail
              exact ⟨⟨k + 1, by omega, by go_num, Lib.hid (key.out _ (grow_drewN (grow_refl _ _) _))⟩, by simp [intOf]; omega⟩
            · have z0 : 0 < k := by simpa using kp
              have z1 : decide (0 < k) = true := by simpa using kp
              rcases hlt with ⟨u1, u2⟩ | ⟨u1, u2, u3⟩
              · go_quiet (fail)
                go_wp2_with fail
                exact ⟨⟨k + 1, by omega, by go_num, Lib.hid (key.out _ (grow_drewN (grow_refl _ _) _))⟩, by simp [intOf]; omega⟩
              · go_quiet (fail)
                go_wp2_with fail
                exact ⟨⟨k + 1, by omega, by go_num, Lib.hid (key.out _ (grow_drewN (grow_refl _ _) _))⟩, by simp [intOf]; omega⟩
          · rw [s1] at c0 d0
            rw [s1] at hk19
            clear s1
            subst s3
            go_wp2_with fail
            go_quiet (fail)
            go_wp2_with fail
            rcases hk19 with h0 | ⟨m, A, B, wk, kp, hm0, hml, m0, m1, hlt⟩
            · have z0 : ¬ (0 < k) := by simpa using h0
              have z1 : decide (0 < k) = false := by simpa using h0
              go_quiet (fail)
              go_wp2_with fail
              exact ⟨⟨k + 1, by omega, by go_num, Lib.hid (key.out _ (grow_drewN (grow_refl _ _) _))⟩, by simp [intOf]; omega⟩
            · have z0 : 0 < k := by simpa using kp
              have z1 : decide (0 < k) = true := by simpa using kp
              rcases hlt with ⟨u1, u2⟩ | ⟨u1, u2, u3⟩
              · go_quiet (fail)
                go_wp2_with fail
                exact ⟨⟨k + 1, by omega, by go_num, Lib.hid (key.out _ (grow_drewN (grow_refl _ _) _))⟩, by simp [intOf]; omega⟩
              · go_quiet (fail)
                go_wp2_with fail
                exact ⟨⟨k + 1, by omega, by go_num, Lib.hid (key.out _ (grow_drewN (grow_refl _ _) _))⟩, by simp [intOf]; omega⟩
        · obtain rfl : k = L1.length := by omega
          go_wp2_with fail
          go_ret
          exact ⟨rfl, grow_below (grow_trans (grow_trans HGB.out G5.out) hg.out) _ (Nat.le_refl _) (by simp)⟩
    · have h3 := setTo_no O1 ad (n : Int) a3 hv
      have e1 : c2 = 1 := by rw [HC2.out, h3]
      have e2 : O2 = O1 := by rw [HO2.out, h3]
      subst e1
      have A6 := code_kpeq x5 v3 v5 (allP O1) R5.out (by rw [← e2]; exact S5.out) (by omega)
      clear hs hz h3 e2 R5 S5 HC1 HO1 HC2 HO2 hOn
      by_cases ha : 0 ≤ a3
      · have ha7 : ¬ (a3 ≤ 7) := by omega
        clear hv
        go_wp2_with fail
        (with_reducible refine A6.mono ?_)
        rintro e x6 ⟨rfl, hg6⟩
        have HG := Lib.hid (grow_trans (grow_trans HGB.out G5.out) hg6)
        clear hg6 A6
        go_wp2_with fail
        go_ret
        exact ⟨rfl, grow_below HG.out _ (Nat.le_refl _) (by simp)⟩
      · clear hv
        go_wp2_with fail
        (with_reducible refine A6.mono ?_)
        rintro e x6 ⟨rfl, hg6⟩
        have HG := Lib.hid (grow_trans (grow_trans HGB.out G5.out) hg6)
        clear hg6 A6
        go_wp2_with fail
        go_ret
        exact ⟨rfl, grow_below HG.out _ (Nat.le_refl _) (by simp)⟩
  · rw [← HC1.out] at h1
    have q1 : (c1 == 0) = false := by rw [beq_eq_false_iff_ne]; exact h1
    have q2 : (c1 != 0) = true := by rw [bne_iff_ne]; exact h1
    rcases setTo_code O1 ad p1 a3 with h3 | ⟨h3, h4⟩
    · rw [← HC2.out] at h3
      subst h3
      clear h2 h1
      go_wp2_with fail
      go_ret
      exact ⟨rfl, grow_below (grow_trans HGB.out G5.out) _ (Nat.le_refl _) (by simp)⟩
    · rw [← HC2.out] at h3
      rw [← HO2.out] at h4
      have A6 := code_kpeq x5 v3 v5 (allP O1) R5.out (by rw [← h4]; exact S5.out) (by omega)
      have q3 : (c2 == 0) = false := by rw [beq_eq_false_iff_ne]; exact h3
      have q4 : (c2 != 0) = true := by rw [bne_iff_ne]; exact h3
      clear h1 h2 h3 h4 R5 S5 HC1 HO1 HC2 HO2
      go_wp2_with fail
      (with_reducible refine A6.mono ?_)
      rintro e x6 ⟨rfl, hg6⟩
      have HG := Lib.hid (grow_trans (grow_trans HGB.out G5.out) hg6)
      clear hg6 A6
      go_wp2_with fail
      go_ret
      exact ⟨rfl, grow_below HG.out _ (Nat.le_refl _) (by simp)⟩

end Go.Proofs.Ytbkgfpebffmffaa
