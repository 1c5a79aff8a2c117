/- The walk of PathsLongest. -/
import Derived.Test.YtbkgfpebffmffaaPathsHas
namespace Go.Proofs.Ytbkgfpebffmffaa
open Go.RowKit
set_option linter.unusedVariables false

theorem prow_val {w : World} {base : Nat} {v : Value} {l : List (Pf × Int)} (h : prow w base v l) :
    ∃ ao cap, v = .slice ao l.length cap ∧ (∀ x, ao = some x → v.ownBlock = some x.block) ∧ ∀ i (hi : i < l.length), ∃ x, ao = some x ∧ PathIn w x i l[i] := by
  by_cases hl : l = []
  · subst hl
    rcases h.2 with ⟨e, hn⟩ | ⟨g, cap, cur, hv, hbg, hg, hnc, hcm, hcs, htake⟩
    · exact ⟨none, 0, e, fun x e => (by cases e), fun i hi => absurd hi (Nat.not_lt_zero _)⟩
    · exact ⟨some ⟨g, 0, none⟩, cap, hv, fun x e => by rw [hv]; cases e; rfl, fun i hi => absurd hi (Nat.not_lt_zero _)⟩
  · obtain ⟨x, cap, hv, ho, hc⟩ := prow_at h hl
    exact ⟨some x, cap, hv, fun y e => by cases e; exact ho, fun i hi => ⟨x, rfl, hc i hi⟩⟩
theorem code_tbfind (w : World) (B0 tb : Nat) (O : Own) (h : TB B0 w tb O) (a : Nat) (ha : a < 4294967296) :
    Calls Try.prog 11 #[.pointer (some ⟨tb, 0, none⟩), .int .u32 (a : Int)] w fun e w' => e = .returned (retF (findP O a 32)) ∧ w.grownBy w' none := by
  obtain ⟨N, M, V, T, _, hO, _⟩ := h
  have := code_ptfind w tb N M V _ T a ha
  rwa [hO] at this
theorem take_succ_get {α : Type} (l : List α) (i : Nat) (hi : i < l.length) : l.take (i + 1) = l.take i ++ [l[i]] := by
  rw [List.take_add_one, List.getElem?_eq_getElem hi]
  rfl

set_option maxRecDepth 20000 in
set_option maxHeartbeats 4000000 in
theorem walk_PathsLongest (a0 : Option Addr) (len0 cap0 : Nat) (a1 : Int) (w1 : (Lit.int .u32 a1).wf = true) (w : World) (r0 : IsRecs stepKs w a0 len0 cap0) :
    Calls Try.prog 4 #[.slice a0 len0 cap0, .int .u32 a1] w fun e w' => e = .returned (.bool true) ∧ Below w.heap.size w w' := by
  obtain ⟨a, rfl, ha⟩ : ∃ z : Nat, a1 = (z : Int) ∧ z < 4294967296 := by have := bounds_u32 w1; exact ⟨a1.toNat, by omega, by omega⟩
  have A := code_kptable w a0 len0 cap0 r0
  clear w1 r0
  go_enter Try.func4, Try.ntmps4
  go_wp2_with fail
  (with_reducible refine A.mono ?_)
  rintro e x1 ⟨tb, O, rfl, hT, hg1⟩
  have A1 := code_tbfind x1 w.heap.size tb O hT a ha
  clear A
  unfold retF at A1
  obtain ⟨L, hL⟩ : ∃ L, L = allP O := ⟨_, rfl⟩
  have hl64 : L.length ≤ 64 := by rw [hL]; obtain ⟨_, _, _, _, _, _, h⟩ := hT; exact h
  have hlm : ∀ x ∈ L, x.1.length ≤ 32 := fun x hx => by rw [hL] at hx; exact ((allP_mem O x).1 hx).1
  obtain ⟨nv, hnv⟩ : ∃ nv, nv = (findP O a 32).getD 0 := ⟨_, rfl⟩
  obtain ⟨isv, hisv⟩ : ∃ isv, isv = (findP O a 32).isSome := ⟨_, rfl⟩
  rw [← hnv, ← hisv] at A1
  have HFO : Hid (∀ x ∈ L, hasX a x = true → isv = true) := Lib.hid fun x hx h => by
    obtain ⟨v, hv⟩ := has_found O a x (by rw [← hL]; exact hx) h
    rw [hisv, hv]; rfl
  have HFU : Hid (∀ x ∈ L, hasX a x = true → x.1.length = 32 → nv = x.2) := Lib.hid fun x hx h h2 => by
    rw [hnv, has_full O a x (by rw [← hL]; exact hx) h h2]; rfl
  have HNO : Hid (bestL a L < 0 → isv = false ∧ nv = 0) := Lib.hid fun h => by
    rw [hnv, hisv, none_found O a (by rw [← hL]; exact h)]
    exact ⟨rfl, rfl⟩
  have HBE : Hid (∀ x ∈ L, hasX a x = true → (x.1.length : Int) = bestL a L → isv = true ∧ nv = x.2) := Lib.hid fun x hx h h2 => by
    rw [hnv, hisv, best_found O a x (by rw [← hL]; exact hx) h (by rw [← hL]; exact h2)]
    exact ⟨rfl, rfl⟩
  have HSO : Hid (¬ bestL a L < 0 → ∃ x ∈ L, hasX a x = true ∧ (x.1.length : Int) = bestL a L) := Lib.hid fun h => by
    have := best_some O a (by rw [← hL]; exact h)
    rw [← hL] at this
    exact this
  have hbnd : -1 ≤ bestL a L := (best_ge a L).1
  have HLM := Lib.hid hlm
  clear hlm hnv hisv
  have H1 := Lib.hid hT
  have G1 := Lib.hid hg1
  clear hT hg1
  go_wp2_with fail
  (with_reducible refine A1.mono ?_)
  rintro e x2 ⟨rfl, hg2⟩
  have H2 := Lib.hid (H1.out.new hg2)
  have G2 := Lib.hid (grow_trans G1.out hg2)
  clear A1 H1 G1 hg2
  have A2 := code_ptall x2 w.heap.size tb O H2.out
  rw [← hL] at A2
  go_wp2_with fail
  (with_reducible refine A2.mono ?_)
  rintro e x3 ⟨v, rfl, hrow, hg3⟩
  have H3 := Lib.hid (H2.out.new hg3)
  have G3 := Lib.hid (grow_trans G2.out hg3)
  obtain ⟨ao, cap, rfl, _, hcells⟩ := prow_val hrow
  have HC := Lib.hid hcells
  clear A2 H2 G2 hg3 hrow hcells
  have HHL := Lib.hid hL
  clear hL
  go_wp2_with fail
  go_loopw [8, 26] (fun v8 i wr => ∃ k : Nat, k ≤ L.length ∧ i = .int .i64 k ∧ v8 = .int .i64 (bestL a (L.take k)) ∧ Hid (x3.grownBy wr none)) (fun _ i _ => L.length - (intOf i).toNat)
  case atStart => exact ⟨0, by omega, rfl, rfl, Lib.hid (grow_refl _ _)⟩
  case round =>
    obtain ⟨k, hk, rfl, rfl, hg⟩ := hrel
    by_cases hlk : k < L.length
    · obtain ⟨y, hy, hP⟩ := HC.out k hlk
      subst hy
      obtain ⟨c0, c1, c2⟩ := hP.kept hg.out (by simp)
      have hmem : L[k] ∈ L := List.getElem_mem hlk
      have hs := take_succ_get L k hlk
      have hb1 := bestL_snoc a (L.take k) L[k]
      rw [← hs] at hb1
      obtain ⟨px, hpx⟩ : ∃ px, px = L[k] := ⟨_, rfl⟩
      rw [← hpx] at c0 c1 c2 hmem hb1
      have l32 := HLM.out px hmem
      have AH := fun W : World => code_khas W px l32 a ha
      have HM := Lib.hid hmem
      have q1 : ¬ ((px.1.length : Int) < 0) := by omega
      have q2 : ¬ ((32 : Int) < (px.1.length : Int)) := by omega
      obtain ⟨bst, hbst⟩ : ∃ bst, bst = bestL a (L.take k) := ⟨_, rfl⟩
      rw [← hbst] at hb1 ⊢
      have HB1 := Lib.hid hb1
      clear hs hpx hmem hb1 hbst hP
      cases hhx : hasX a px with
      | true =>
        obtain rfl := HFO.out px HM.out hhx
        have HHX := Lib.hid hhx
        rw [hhx] at AH
        clear hhx
        by_cases hgt : bst < (px.1.length : Int)
        · have HE : Hid (bestL a (L.take (k + 1)) = (px.1.length : Int)) := Lib.hid (by rw [HB1.out]; unfold bestX; rw [HHX.out]; simp [hgt])
          by_cases h32 : (px.1.length : Int) = 32
          · have hfe := HFU.out px HM.out HHX.out (by omega)
            have qe : (px.2 != nv) = false := by rw [hfe]; simp
            have q32 : ((px.1.length : Int) == 32) = true := by rw [h32]; rfl
            clear hfe h32
            go_wp2_with fail
            (with_reducible refine (AH _).mono ?_)
            rintro e y2 ⟨rfl, hgy⟩
            have hobj := grow_obj hgy (obj_new wr (.cells #[.int .u32 (addrP px.1 : Int), .int .i64 (px.1.length : Int), .int .i64 px.2] 34)) nofun
            have d1 := obj_cell hobj 1
            have d2 := obj_cell hobj 2
            have HG := Lib.hid (grow_trans (grow_trans hg.out (World.grownBy_alloc _ _ _)) hgy)
            clear hgy hobj AH
            go_wp2_with fail
            go_roundw
            case rel => exact ⟨k + 1, by omega, by go_num, by rw [HE.out], HG⟩
            case measure => simp [intOf]; omega
          · have q32 : ((px.1.length : Int) == 32) = false := by rw [beq_eq_false_iff_ne]; exact h32
            by_cases hpe : px.2 = nv
            · have qe : (px.2 != nv) = false := by rw [hpe]; simp
              clear hpe
              go_wp2_with fail
              (with_reducible refine (AH _).mono ?_)
              rintro e y2 ⟨rfl, hgy⟩
              have hobj := grow_obj hgy (obj_new wr (.cells #[.int .u32 (addrP px.1 : Int), .int .i64 (px.1.length : Int), .int .i64 px.2] 34)) nofun
              have d1 := obj_cell hobj 1
              have d2 := obj_cell hobj 2
              have HG := Lib.hid (grow_trans (grow_trans hg.out (World.grownBy_alloc _ _ _)) hgy)
              clear hgy hobj AH
              go_wp2_with fail
              go_roundw
              case rel => exact ⟨k + 1, by omega, by go_num, by rw [HE.out], HG⟩
              case measure => simp [intOf]; omega
            · have qe : (px.2 != nv) = true := by rw [bne_iff_ne]; exact hpe
              go_wp2_with fail
              (with_reducible refine (AH _).mono ?_)
              rintro e y2 ⟨rfl, hgy⟩
              have hobj := grow_obj hgy (obj_new wr (.cells #[.int .u32 (addrP px.1 : Int), .int .i64 (px.1.length : Int), .int .i64 px.2] 34)) nofun
              have d1 := obj_cell hobj 1
              have d2 := obj_cell hobj 2
              have HG := Lib.hid (grow_trans (grow_trans hg.out (World.grownBy_alloc _ _ _)) hgy)
              clear hgy hobj AH
              go_wp2_with fail
              go_roundw
              case rel => exact ⟨k + 1, by omega, by go_num, by rw [HE.out], HG⟩
              case measure => simp [intOf]; omega
        · have HE : Hid (bestL a (L.take (k + 1)) = bst) := Lib.hid (by rw [HB1.out]; unfold bestX; rw [HHX.out]; simp [hgt])
          go_wp2_with fail
          (with_reducible refine (AH _).mono ?_)
          rintro e y2 ⟨rfl, hgy⟩
          have hobj := grow_obj hgy (obj_new wr (.cells #[.int .u32 (addrP px.1 : Int), .int .i64 (px.1.length : Int), .int .i64 px.2] 34)) nofun
          have d1 := obj_cell hobj 1
          have d2 := obj_cell hobj 2
          have HG := Lib.hid (grow_trans (grow_trans hg.out (World.grownBy_alloc _ _ _)) hgy)
          clear hgy hobj AH
          go_wp2_with fail
          go_roundw
          case rel => exact ⟨k + 1, by omega, by go_num, by rw [HE.out], HG⟩
          case measure => simp [intOf]; omega
      | false =>
        have HE : Hid (bestL a (L.take (k + 1)) = bst) := Lib.hid (by rw [HB1.out]; unfold bestX; rw [hhx]; simp)
        rw [hhx] at AH
        clear hhx
        go_wp2_with fail
        (with_reducible refine (AH _).mono ?_)
        rintro e y2 ⟨rfl, hgy⟩
        have hobj := grow_obj hgy (obj_new wr (.cells #[.int .u32 (addrP px.1 : Int), .int .i64 (px.1.length : Int), .int .i64 px.2] 34)) nofun
        have d1 := obj_cell hobj 1
        have d2 := obj_cell hobj 2
        have HG := Lib.hid (grow_trans (grow_trans hg.out (World.grownBy_alloc _ _ _)) hgy)
        clear hgy hobj AH
        go_wp2_with fail
        go_roundw
        case rel => exact ⟨k + 1, by omega, by go_num, by rw [HE.out], HG⟩
        case measure => simp [intOf]; omega
    · obtain rfl : k = L.length := by omega
      rw [List.take_length]
      by_cases hneg : bestL a L < 0
      · obtain ⟨rfl, rfl⟩ := HNO.out hneg
        clear HNO HSO HFO HFU HBE
        generalize bestL a L = bst at *
        go_wp2_with fail
        go_ret
        exact ⟨rfl, grow_below (grow_trans G3.out hg.out) _ (Nat.le_refl _) (by simp)⟩
      · obtain ⟨z, hz1, hz2, hz3⟩ := HSO.out (by omega)
        have HZ : Hid (∃ z ∈ L, hasX a z = true ∧ (z.1.length : Int) = bestL a L) := Lib.hid ⟨z, hz1, hz2, hz3⟩
        clear hz1 hz2 hz3
        obtain ⟨bst, hbst⟩ : ∃ bst, bst = bestL a L := ⟨_, rfl⟩
        rw [← hbst] at hneg hbnd HZ ⊢
        have HBST := Lib.hid hbst
        clear hbst
        have A3 := code_ptall wr w.heap.size tb O (H3.out.new hg.out)
        rw [← HHL.out] at A3
        go_wp2_with fail
        (with_reducible refine A3.mono ?_)
        rintro e x4 ⟨v2, rfl, hrow, hg4⟩
        obtain ⟨ao2, cap2, rfl, _, hcells⟩ := prow_val hrow
        have HC2 := Lib.hid hcells
        have G4 := Lib.hid (grow_trans (grow_trans G3.out hg.out) hg4)
        clear A3 hg4 hrow hcells hg
        go_wp2_with fail
        go_loopw [78] (fun i wr => ∃ k : Nat, k ≤ L.length ∧ i = .int .i64 k ∧ Hid (∀ j (hj : j < L.length), j < k → ¬ ((L[j].1.length : Int) = bst ∧ hasX a L[j] = true)) ∧ Hid (x4.grownBy wr none)) (fun i _ => L.length - (intOf i).toNat)
        case atStart => exact ⟨0, by omega, rfl, Lib.hid (fun j _ h => absurd h (Nat.not_lt_zero _)), Lib.hid (grow_refl _ _)⟩
        case round =>
          obtain ⟨k, hk, rfl, hno, hg⟩ := hrel
          by_cases hlk : k < L.length
          · obtain ⟨y, hy, hP⟩ := HC2.out k hlk
            subst hy
            obtain ⟨c0, c1, c2⟩ := hP.kept hg.out (by simp)
            have hmem : L[k] ∈ L := List.getElem_mem hlk
            have HNX : Hid (¬ ((L[k].1.length : Int) = bst ∧ hasX a L[k] = true) → ∀ j (hj : j < L.length), j < k + 1 → ¬ ((L[j].1.length : Int) = bst ∧ hasX a L[j] = true)) := Lib.hid (fun hn j hj hjk => by
              rcases Nat.lt_or_ge j k with q | q
              · exact hno.out j hj q
              · obtain rfl : j = k := by omega
                exact hn)
            obtain ⟨px, hpx⟩ : ∃ px, px = L[k] := ⟨_, rfl⟩
            rw [← hpx] at c0 c1 c2 hmem HNX
            have l32 := HLM.out px hmem
            have AH := fun W : World => code_khas W px l32 a ha
            have HM := Lib.hid hmem
            clear hpx hmem hP hno
            by_cases hlb : (px.1.length : Int) = bst
            · cases hhx : hasX a px with
              | true =>
                obtain ⟨rfl, rfl⟩ := HBE.out px HM.out hhx (by rw [hlb, HBST.out])
                rw [hhx] at AH
                have qb : ((px.1.length : Int) == bst) = true := by rw [hlb]; exact beq_self_eq_true _
                have qe : (px.2 == px.2) = true := beq_self_eq_true _
                clear hhx hlb HNX
                go_wp2_with fail
                (with_reducible refine (AH _).mono ?_)
                rintro e y2 ⟨rfl, hgy⟩
                have hobj := grow_obj hgy (obj_new wr (.cells #[.int .u32 (addrP px.1 : Int), .int .i64 (px.1.length : Int), .int .i64 px.2] 34)) nofun
                have d2 := obj_cell hobj 2
                have HG := Lib.hid (grow_trans (grow_trans (grow_trans G4.out hg.out) (World.grownBy_alloc _ _ _)) hgy)
                clear hgy hobj AH
                go_wp2_with fail
                go_ret
                exact ⟨rfl, grow_below HG.out _ (Nat.le_refl _) (by simp)⟩
              | false =>
                have HN2 := Lib.hid (HNX.out (fun h => by rw [hhx] at h; cases h.2))
                rw [hhx] at AH
                have qb : ((px.1.length : Int) == bst) = true := by rw [hlb]; exact beq_self_eq_true _
                clear hhx hlb HNX
                go_wp2_with fail
                (with_reducible refine (AH _).mono ?_)
                rintro e y2 ⟨rfl, hgy⟩
                have HG := Lib.hid (grow_trans (grow_trans hg.out (World.grownBy_alloc _ _ _)) hgy)
                clear hgy AH
                go_wp2_with fail
                go_roundw
                case rel => exact ⟨k + 1, by omega, by go_num, HN2, HG⟩
                case measure => simp [intOf]; omega
            · have HN2 := Lib.hid (HNX.out (fun h => hlb h.1))
              have qb : ((px.1.length : Int) == bst) = false := by rw [beq_eq_false_iff_ne]; exact hlb
              have HG := Lib.hid (grow_trans hg.out (World.grownBy_alloc wr (.cells #[.int .u32 (addrP px.1 : Int), .int .i64 (px.1.length : Int), .int .i64 px.2] 34) none))
              clear HNX AH
              go_wp2_with fail
              go_roundw
              case rel => exact ⟨k + 1, by omega, by go_num, HN2, HG⟩
              case measure => simp [intOf]; omega
          · exfalso
            obtain rfl : k = L.length := by omega
            obtain ⟨z, hz1, hz2, hz3⟩ := HZ.out
            obtain ⟨j, hj, rfl⟩ := List.getElem_of_mem hz1
            exact hno.out j hj hj ⟨hz3, hz2⟩

end Go.Proofs.Ytbkgfpebffmffaa
