/- The desk: boxes opened and sealed. -/
import Derived.Test.YtmomfbkpniblgaaGreatDoorDg09
import Derived.Test.YtmomfbkpniblgaaGreatDoorDgKdf
import Derived.Test.YtmomfbkpniblgaaGreatDoorDg06
import Derived.Test.YtmomfbkpniblgaaGreatDoorDgDeskSealed
import Derived.Laws.EntriesVeiled
namespace Go.Proofs.YtmomfbkpniblgaaGreatDoor
open Go.RowKit
set_option linter.unusedVariables false


set_option maxRecDepth 20000 in
set_option maxHeartbeats 1000000 in
theorem sealed_seal1 (h : List UInt8) (ss : List (List UInt8)) (hs : OverRow 100 (fun v => #[v]) (h :: ss) (SPost (some 1))) (hb : ∀ s ∈ ss, s.length ≤ 2000) (hn : ss.length ≤ 1000) (hf : ∀ a b c d : List UInt8, a.length ≤ 2000 → b.length ≤ 2000 → c.length ≤ 2000 → d.length ≤ 2000 → AnyTE 101 #[S a, S b, S c, S d]) : AnyL 59 (fun v => #[S [115, 101, 97, 108], v]) (h :: ss) := by
  rcases any_texts ss 4 (by omega) hb hn with ⟨ts, hl, hbt, h0, C⟩ | ⟨m, h1, h2, C⟩
  · obtain ⟨a, b, c, d, rfl⟩ : ∃ a b c d, ts = [a, b, c, d] := by
      match ts, hl with
      | [a, b, c, d], _ => exact ⟨a, b, c, d, rfl⟩
    obtain ⟨s, q, hs1, hq15, A⟩ := hf a b c d (hbt a (by simp)) (hbt b (by simp)) (hbt c (by simp)) (hbt d (by simp))
    obtain ⟨r, m, m1, m2, hr, D⟩ := told_form s hs1 q hq15
    refine ⟨r, m, m1, m2, hr, fun w bk o cap hrow hc1 hc2 => ?_⟩
    have hcap2 : ¬ cap = 1 := by rw [List.length_cons] at hc1; omega
    have hcp : ss.length ≤ cap - 1 := by rw [List.length_cons] at hc1; omega
    have hcq : cap - 1 ≤ maxLen := by omega
    have A1 := hs w bk o cap hrow hc1 hc2
    have A2 : ∀ x : World, w.grownBy x none → Calls Tryz.prog 47 #[.slice (some ⟨bk, o + 1, none⟩) ss.length (cap - 1), .int .i64 4] x (RowIs [a, b, c, d] x) := fun x hg => C x bk (o + 1) (cap - 1) (hrow.tail.kept hg) hcp hcq
    unfold SPost at A1
    unfold RowIs at A2
    rw [List.length_cons] at *
    clear hs hrow C hr hbt hf hs1 hq15 hb hl h0
    unfold S at A D ⊢
    go_enter Tryz.func59, Tryz.ntmps59
    go_wp2_with fail
    (with_reducible refine A1.mono ?_)
    rintro e x0 ⟨rfl, rfl⟩
    go_upto_region 2 with (fail)
    refine wp_region_lit ?_
    refine wpList_mkmap rfl _ rfl ?_
    refine Go.Great.wpList_readTo rfl _ rfl (.agg #[.func (.func 101) #[] #[], .func (.func 102) #[] #[]]) (by simp [execOp, Act.eval, Act.put, go_sem]) ?_
    refine wpList_put rfl _ _ _ _ _ _ rfl w.heap.size #[] 0 ⟨#[115, 101, 97, 108]⟩ (.agg #[.func (.func 101) #[] #[], .func (.func 102) #[] #[]]) rfl rfl rfl und_box und_str (World.alloc_heap_new _ _) rfl ?_
    refine Go.Great.wpList_readTo rfl _ rfl (.agg #[.func (.func 103) #[] #[], .func (.func 104) #[] #[]]) (by simp [execOp, Act.eval, Act.put, go_sem]) ?_
    refine wpList_put rfl _ _ _ _ _ _ rfl w.heap.size #[{ key := .string ⟨#[115, 101, 97, 108]⟩, val := .agg #[.func (.func 101) #[] #[], .func (.func 102) #[] #[]], born := 0 }] 1 ⟨#[111, 112, 101, 110]⟩ (.agg #[.func (.func 103) #[] #[], .func (.func 104) #[] #[]]) rfl rfl rfl und_box und_str (World.putObj_heap_same (alloc_lt _ _)) (by kernel_rfl) ?_
    refine wpList_world w w.heap.size ?_ (two_heap _ _ _ _) (two_grown _ _ _ _)
    intro x1 hM hgM
    simp only [Act.put, List.setIfInBounds_toArray, List.set_cons_succ, List.set_cons_zero, List.push_toArray, List.cons_append, List.nil_append] at hM ⊢
    have hlk := run_look _ _ _ _ _ _ ⟨#[115, 101, 97, 108]⟩ und_box und_str hM (some (0, .agg #[.func (.func 101) #[] #[], .func (.func 102) #[] #[]])) (by kernel_rfl) funZ (zero_box _)
    have hsn := fun (p : Addr) (m : Mode) (W : World) => run_store Tryz.prog W p .nilFunc m rfl
    unfold lookV funZ at hlk
    simp only at hlk
    clear hM
    have hgx1 := grow_alloc hgM (.cells #[.func (.func 101) #[] #[], .func (.func 102) #[] #[]] 159)
    go_wp2_with fail
    (with_reducible refine (A2 _ hgx1).mono ?_)
    rintro e x2 ⟨v, rfl, hrx, hg2⟩
    obtain ⟨g, cp, rfl, _, _, hcp2, hcm, hcell⟩ := srow_cells hrx (by simp)
    have c0 : x2.cell? ⟨g, 0, none⟩ = some (.string ⟨a.toArray⟩) := hcell 0 (by simp)
    have c1 : x2.cell? ⟨g, 1, none⟩ = some (.string ⟨b.toArray⟩) := hcell 1 (by simp)
    have c2 : x2.cell? ⟨g, 2, none⟩ = some (.string ⟨c.toArray⟩) := hcell 2 (by simp)
    have c3 : x2.cell? ⟨g, 3, none⟩ = some (.string ⟨d.toArray⟩) := hcell 3 (by simp)
    have hg0 := grow_trans hgx1 hg2
    clear hcell hrx A1 A2 hgx1 hlk hsn hgM
    have cF := hg2.cell (a := ⟨x1.heap.size, 0, none⟩) (v := .func (.func 101) #[] #[]) (by rw [obj_cell (obj_new x1 _)]; rfl) (by simp)
    generalize x1.heap.size = F at *
    clear hg2
    go_wp2_with fail
    refine wp_drawn_tail (by kernel_rfl) ?_
    refine drawn_tail 19 [47, 48, 49, 50, 51, 52, 53, 54, 55, 56, 57, 58, 59, 60, 61, 62, 63, 64, 65] [(PEq (.int .i64 1)), (PEq (.int .i64 0)), (PEq (.pointer (some ⟨F, 0, none⟩))), (PEq (.func (.func 101) #[] #[])), (PEq (.slice (some ⟨g, 0, none⟩) 4 cp)), (PEq (.pointer (some ⟨g, 0, none⟩))), (PEq (.string ⟨a.toArray⟩)), (PEq (.slice (some ⟨g, 0, none⟩) 4 cp)), (PEq (.pointer (some ⟨g, 1, none⟩))), (PEq (.string ⟨b.toArray⟩)), (PEq (.slice (some ⟨g, 0, none⟩) 4 cp)), (PEq (.pointer (some ⟨g, 2, none⟩))), (PEq (.string ⟨c.toArray⟩)), (PEq (.slice (some ⟨g, 0, none⟩) 4 cp)), (PEq (.pointer (some ⟨g, 3, none⟩))), (PEq (.string ⟨d.toArray⟩)), (PEq (.tuple #[.string ⟨s.toArray⟩, .int .i64 (q : Int)])), (PEq (.string ⟨s.toArray⟩)), (PEq (.int .i64 (q : Int)))] (by kernel_rfl) (by kernel_rfl) (by kernel_rfl) (by kernel_rfl) (by decide) (by decide) (by rfl) ?_ ?_ ?_
    · exact ⟨mono_eq _, mono_eq _, mono_eq _, mono_eq _, mono_eq _, mono_eq _, mono_eq _, mono_eq _, mono_eq _, mono_eq _, mono_eq _, mono_eq _, mono_eq _, mono_eq _, mono_eq _, mono_eq _, mono_eq _, mono_eq _, mono_eq _, True.intro⟩
    · intro vs x hl hg
      obtain ⟨v0, v1, v2, v3, v4, v5, v6, v7, v8, v9, v10, v11, v12, v13, v14, v15, v16, v17, v18, rfl⟩ := lenD19 hl
      simp only [layAll, Act.put, List.setIfInBounds_toArray, List.set_cons_succ, List.set_cons_zero]
      have q0 := hg.cell c0 (by simp)
      have q1 := hg.cell c1 (by simp)
      have q2 := hg.cell c2 (by simp)
      have q3 := hg.cell c3 (by simp)
      have q4 := hg.cell cF (by simp)
      clear c0 c1 c2 c3 cF hg0
      refine stepsL_cons (fun K hw hr hK => ?_) <| stepsL_cons (fun K hw hr hK => ?_) <| stepsL_cons (fun K hw hr hK => ?_) <| stepsL_cons (fun K hw hr hK => ?_) <| stepsL_cons (fun K hw hr hK => ?_) <| stepsL_cons (fun K hw hr hK => ?_) <| stepsL_cons (fun K hw hr hK => ?_) <| stepsL_cons (fun K hw hr hK => ?_) <| stepsL_cons (fun K hw hr hK => ?_) <| stepsL_cons (fun K hw hr hK => ?_) <| stepsL_cons (fun K hw hr hK => ?_) <| stepsL_cons (fun K hw hr hK => ?_) <| stepsL_cons (fun K hw hr hK => ?_) <| stepsL_cons (fun K hw hr hK => ?_) <| stepsL_cons (fun K hw hr hK => ?_) <| stepsL_cons (fun K hw hr hK => ?_) <| stepsL_cons (fun K hw hr hK => ?_) <| stepsL_cons (fun K hw hr hK => ?_) <| stepsL_cons (fun K hw hr hK => ?_) <| stepsL_nil
      · -- 0: move
        unfold Oper.wp
        go_simp
        exact hK _ _ rfl (grow_refl _ _)
      · -- 1: binOp
        have f0 : v0 = _ := hw 0 (by kernel_rfl)
        subst f0
        unfold Oper.wp
        go_simp
        exact hK _ _ rfl (grow_refl _ _)
      · -- 2: indexAddr
        have f1 : v1 = _ := hw 1 (by kernel_rfl)
        subst f1
        unfold Oper.wp
        go_simp
        exact hK _ _ rfl (grow_refl _ _)
      · -- 3: load
        have f2 : v2 = _ := hw 2 (by kernel_rfl)
        subst f2
        unfold Oper.wp
        go_simp
        exact hK _ _ rfl (grow_refl _ _)
      · -- 4: move
        unfold Oper.wp
        go_simp
        exact hK _ _ rfl (grow_refl _ _)
      · -- 5: indexAddr
        have f4 : v4 = _ := hw 4 (by kernel_rfl)
        subst f4
        unfold Oper.wp
        go_simp
        exact hK _ _ rfl (grow_refl _ _)
      · -- 6: load
        have f5 : v5 = _ := hw 5 (by kernel_rfl)
        subst f5
        unfold Oper.wp
        go_simp
        exact hK _ _ rfl (grow_refl _ _)
      · -- 7: move
        unfold Oper.wp
        go_simp
        exact hK _ _ rfl (grow_refl _ _)
      · -- 8: indexAddr
        have f7 : v7 = _ := hw 7 (by kernel_rfl)
        subst f7
        unfold Oper.wp
        go_simp
        exact hK _ _ rfl (grow_refl _ _)
      · -- 9: load
        have f8 : v8 = _ := hw 8 (by kernel_rfl)
        subst f8
        unfold Oper.wp
        go_simp
        exact hK _ _ rfl (grow_refl _ _)
      · -- 10: move
        unfold Oper.wp
        go_simp
        exact hK _ _ rfl (grow_refl _ _)
      · -- 11: indexAddr
        have f10 : v10 = _ := hw 10 (by kernel_rfl)
        subst f10
        unfold Oper.wp
        go_simp
        exact hK _ _ rfl (grow_refl _ _)
      · -- 12: load
        have f11 : v11 = _ := hw 11 (by kernel_rfl)
        subst f11
        unfold Oper.wp
        go_simp
        exact hK _ _ rfl (grow_refl _ _)
      · -- 13: move
        unfold Oper.wp
        go_simp
        exact hK _ _ rfl (grow_refl _ _)
      · -- 14: indexAddr
        have f13 : v13 = _ := hw 13 (by kernel_rfl)
        subst f13
        unfold Oper.wp
        go_simp
        exact hK _ _ rfl (grow_refl _ _)
      · -- 15: load
        have f14 : v14 = _ := hw 14 (by kernel_rfl)
        subst f14
        unfold Oper.wp
        go_simp
        exact hK _ _ rfl (grow_refl _ _)
      · -- 16: call
        have f3 : v3 = _ := hw 3 (by kernel_rfl)
        subst f3
        have f6 : v6 = _ := hw 6 (by kernel_rfl)
        subst f6
        have f9 : v9 = _ := hw 9 (by kernel_rfl)
        subst f9
        have f12 : v12 = _ := hw 12 (by kernel_rfl)
        subst f12
        have f15 : v15 = _ := hw 15 (by kernel_rfl)
        subst f15
        unfold Oper.wp
        go_simp
        (with_reducible refine (A _).mono ?_)
        rintro e y ⟨rfl, hg2⟩
        exact hK _ _ rfl hg2
      · -- 17: extract
        have f16 : v16 = _ := hw 16 (by kernel_rfl)
        subst f16
        unfold Oper.wp
        go_simp
        exact hK _ _ rfl (grow_refl _ _)
      · -- 18: extract
        have f16 : v16 = _ := hw 16 (by kernel_rfl)
        subst f16
        unfold Oper.wp
        go_simp
        exact hK _ _ rfl (grow_refl _ _)
    · intro vs x hl hg hp
      obtain ⟨v0, v1, v2, v3, v4, v5, v6, v7, v8, v9, v10, v11, v12, v13, v14, v15, v16, v17, v18, rfl⟩ := lenD19 hl
      have f0 : v0 = _ := hp 0 _ rfl
      have f1 : v1 = _ := hp 1 _ rfl
      have f2 : v2 = _ := hp 2 _ rfl
      have f3 : v3 = _ := hp 3 _ rfl
      have f4 : v4 = _ := hp 4 _ rfl
      have f5 : v5 = _ := hp 5 _ rfl
      have f6 : v6 = _ := hp 6 _ rfl
      have f7 : v7 = _ := hp 7 _ rfl
      have f8 : v8 = _ := hp 8 _ rfl
      have f9 : v9 = _ := hp 9 _ rfl
      have f10 : v10 = _ := hp 10 _ rfl
      have f11 : v11 = _ := hp 11 _ rfl
      have f12 : v12 = _ := hp 12 _ rfl
      have f13 : v13 = _ := hp 13 _ rfl
      have f14 : v14 = _ := hp 14 _ rfl
      have f15 : v15 = _ := hp 15 _ rfl
      have f16 : v16 = _ := hp 16 _ rfl
      have f17 : v17 = _ := hp 17 _ rfl
      have f18 : v18 = _ := hp 18 _ rfl
      subst f0
      subst f1
      subst f2
      subst f3
      subst f4
      subst f5
      subst f6
      subst f7
      subst f8
      subst f9
      subst f10
      subst f11
      subst f12
      subst f13
      subst f14
      subst f15
      subst f16
      subst f17
      subst f18
      simp only [layAll, Act.put, List.setIfInBounds_toArray, List.set_cons_succ, List.set_cons_zero]
      simp only [List.drop_succ_cons, List.drop_zero]
      clear hp hl
      have hgx := grow_trans hg0 hg
      clear hg hg0 A c0 c1 c2 c3 cF
      go_wp2_with fail
      (with_reducible refine (D _).mono ?_)
      intro e y hy
      cases r with
      | some t =>
        obtain ⟨rfl, hg2⟩ := hy
        unfold S
        go_wp2_with fail
        go_ret
        exact ⟨rfl, grow_trans hgx hg2⟩
      | none =>
        obtain ⟨rfl, hg2⟩ := hy
        exact ⟨rfl, rfl, grow_trans hgx hg2⟩
  · refine ⟨none, m, h1, h2, fun t e => (nomatch e), fun w bk o cap hrow hc1 hc2 => ?_⟩
    rcases Nat.lt_or_ge 1 cap with hcap | hcap
    · have hcap2 : ¬ cap = 1 := by rw [List.length_cons] at hc1; omega
      have hcp : ss.length ≤ cap - 1 := by rw [List.length_cons] at hc1; omega
      have hcq : cap - 1 ≤ maxLen := by omega
      have A1 := hs w bk o cap hrow hc1 hc2
      have A2 : ∀ x : World, w.grownBy x none → Calls Tryz.prog 47 #[.slice (some ⟨bk, o + 1, none⟩) ss.length (cap - 1), .int .i64 4] x (Thrown m x) := fun x hg => C x bk (o + 1) (cap - 1) (hrow.tail.kept hg) hcp hcq
      unfold SPost at A1
      unfold Thrown at A2
      rw [List.length_cons] at *
      clear hs hrow C hf hb
      unfold TPost Thrown S at *
      go_enter Tryz.func59, Tryz.ntmps59
      go_wp2_with fail
      (with_reducible refine A1.mono ?_)
      rintro e x0 ⟨rfl, rfl⟩
      go_upto_region 2 with (fail)
      refine wp_region_lit ?_
      refine wpList_mkmap rfl _ rfl ?_
      refine Go.Great.wpList_readTo rfl _ rfl (.agg #[.func (.func 101) #[] #[], .func (.func 102) #[] #[]]) (by simp [execOp, Act.eval, Act.put, go_sem]) ?_
      refine wpList_put rfl _ _ _ _ _ _ rfl w.heap.size #[] 0 ⟨#[115, 101, 97, 108]⟩ (.agg #[.func (.func 101) #[] #[], .func (.func 102) #[] #[]]) rfl rfl rfl und_box und_str (World.alloc_heap_new _ _) rfl ?_
      refine Go.Great.wpList_readTo rfl _ rfl (.agg #[.func (.func 103) #[] #[], .func (.func 104) #[] #[]]) (by simp [execOp, Act.eval, Act.put, go_sem]) ?_
      refine wpList_put rfl _ _ _ _ _ _ rfl w.heap.size #[{ key := .string ⟨#[115, 101, 97, 108]⟩, val := .agg #[.func (.func 101) #[] #[], .func (.func 102) #[] #[]], born := 0 }] 1 ⟨#[111, 112, 101, 110]⟩ (.agg #[.func (.func 103) #[] #[], .func (.func 104) #[] #[]]) rfl rfl rfl und_box und_str (World.putObj_heap_same (alloc_lt _ _)) (by kernel_rfl) ?_
      refine wpList_world w w.heap.size ?_ (two_heap _ _ _ _) (two_grown _ _ _ _)
      intro x1 hM hgM
      simp only [Act.put, List.setIfInBounds_toArray, List.set_cons_succ, List.set_cons_zero, List.push_toArray, List.cons_append, List.nil_append] at hM ⊢
      have hlk := run_look _ _ _ _ _ _ ⟨#[115, 101, 97, 108]⟩ und_box und_str hM (some (0, .agg #[.func (.func 101) #[] #[], .func (.func 102) #[] #[]])) (by kernel_rfl) funZ (zero_box _)
      have hsn := fun (p : Addr) (m : Mode) (W : World) => run_store Tryz.prog W p .nilFunc m rfl
      unfold lookV funZ at hlk
      simp only at hlk
      clear hM
      have hgx1 := grow_alloc hgM (.cells #[.func (.func 101) #[] #[], .func (.func 102) #[] #[]] 159)
      go_wp2_with fail
      (with_reducible refine (A2 _ hgx1).mono ?_)
      rintro e x2 ⟨rfl, hg2⟩
      exact ⟨rfl, rfl, grow_trans hgx1 hg2⟩
    · obtain rfl : ss = [] := List.eq_nil_of_length_eq_zero (by rw [List.length_cons] at hc1; omega)
      obtain rfl : cap = 1 := by simp at hc1; omega
      have A1 := hs w bk o 1 hrow hc1 hc2
      have A2 : ∀ x : World, w.grownBy x none → Calls Tryz.prog 47 #[.slice (some ⟨bk, o, none⟩) 0 0, .int .i64 4] x (Thrown m x) := fun x hg => C x bk o 0 (fun i hi => absurd hi (by simp)) (by simp) (by simp)
      unfold SPost at A1
      unfold Thrown at A2
      simp only [List.length_cons, List.length_nil, Nat.zero_add] at *
      clear hs hrow C hf hb
      unfold TPost Thrown S at *
      go_enter Tryz.func59, Tryz.ntmps59
      go_wp2_with fail
      (with_reducible refine A1.mono ?_)
      rintro e x0 ⟨rfl, rfl⟩
      go_upto_region 2 with (fail)
      refine wp_region_lit ?_
      refine wpList_mkmap rfl _ rfl ?_
      refine Go.Great.wpList_readTo rfl _ rfl (.agg #[.func (.func 101) #[] #[], .func (.func 102) #[] #[]]) (by simp [execOp, Act.eval, Act.put, go_sem]) ?_
      refine wpList_put rfl _ _ _ _ _ _ rfl w.heap.size #[] 0 ⟨#[115, 101, 97, 108]⟩ (.agg #[.func (.func 101) #[] #[], .func (.func 102) #[] #[]]) rfl rfl rfl und_box und_str (World.alloc_heap_new _ _) rfl ?_
      refine Go.Great.wpList_readTo rfl _ rfl (.agg #[.func (.func 103) #[] #[], .func (.func 104) #[] #[]]) (by simp [execOp, Act.eval, Act.put, go_sem]) ?_
      refine wpList_put rfl _ _ _ _ _ _ rfl w.heap.size #[{ key := .string ⟨#[115, 101, 97, 108]⟩, val := .agg #[.func (.func 101) #[] #[], .func (.func 102) #[] #[]], born := 0 }] 1 ⟨#[111, 112, 101, 110]⟩ (.agg #[.func (.func 103) #[] #[], .func (.func 104) #[] #[]]) rfl rfl rfl und_box und_str (World.putObj_heap_same (alloc_lt _ _)) (by kernel_rfl) ?_
      refine wpList_world w w.heap.size ?_ (two_heap _ _ _ _) (two_grown _ _ _ _)
      intro x1 hM hgM
      simp only [Act.put, List.setIfInBounds_toArray, List.set_cons_succ, List.set_cons_zero, List.push_toArray, List.cons_append, List.nil_append] at hM ⊢
      have hlk := run_look _ _ _ _ _ _ ⟨#[115, 101, 97, 108]⟩ und_box und_str hM (some (0, .agg #[.func (.func 101) #[] #[], .func (.func 102) #[] #[]])) (by kernel_rfl) funZ (zero_box _)
      have hsn := fun (p : Addr) (m : Mode) (W : World) => run_store Tryz.prog W p .nilFunc m rfl
      unfold lookV funZ at hlk
      simp only at hlk
      clear hM
      have hgx1 := grow_alloc hgM (.cells #[.func (.func 101) #[] #[], .func (.func 102) #[] #[]] 159)
      go_wp2_with fail
      (with_reducible refine (A2 _ hgx1).mono ?_)
      rintro e x2 ⟨rfl, hg2⟩
      exact ⟨rfl, rfl, grow_trans hgx1 hg2⟩

set_option maxRecDepth 20000 in
set_option maxHeartbeats 1000000 in
theorem sealed_seal2 (h : List UInt8) (ss : List (List UInt8)) (hs : OverRow 100 (fun v => #[v]) (h :: ss) (SPost (some 2))) (hb : ∀ s ∈ ss, s.length ≤ 2000) (hn : ss.length ≤ 1000) (hf : ∀ a b c d : List UInt8, a.length ≤ 2000 → b.length ≤ 2000 → c.length ≤ 2000 → d.length ≤ 2000 → AnyTE 102 #[S a, S b, S c, S d]) : AnyL 59 (fun v => #[S [115, 101, 97, 108], v]) (h :: ss) := by
  rcases any_texts ss 4 (by omega) hb hn with ⟨ts, hl, hbt, h0, C⟩ | ⟨m, h1, h2, C⟩
  · obtain ⟨a, b, c, d, rfl⟩ : ∃ a b c d, ts = [a, b, c, d] := by
      match ts, hl with
      | [a, b, c, d], _ => exact ⟨a, b, c, d, rfl⟩
    obtain ⟨s, q, hs1, hq15, A⟩ := hf a b c d (hbt a (by simp)) (hbt b (by simp)) (hbt c (by simp)) (hbt d (by simp))
    obtain ⟨r, m, m1, m2, hr, D⟩ := told_form s hs1 q hq15
    refine ⟨r, m, m1, m2, hr, fun w bk o cap hrow hc1 hc2 => ?_⟩
    have hcap2 : ¬ cap = 1 := by rw [List.length_cons] at hc1; omega
    have hcp : ss.length ≤ cap - 1 := by rw [List.length_cons] at hc1; omega
    have hcq : cap - 1 ≤ maxLen := by omega
    have A1 := hs w bk o cap hrow hc1 hc2
    have A2 : ∀ x : World, w.grownBy x none → Calls Tryz.prog 47 #[.slice (some ⟨bk, o + 1, none⟩) ss.length (cap - 1), .int .i64 4] x (RowIs [a, b, c, d] x) := fun x hg => C x bk (o + 1) (cap - 1) (hrow.tail.kept hg) hcp hcq
    unfold SPost at A1
    unfold RowIs at A2
    rw [List.length_cons] at *
    clear hs hrow C hr hbt hf hs1 hq15 hb hl h0
    unfold S at A D ⊢
    go_enter Tryz.func59, Tryz.ntmps59
    go_wp2_with fail
    (with_reducible refine A1.mono ?_)
    rintro e x0 ⟨rfl, rfl⟩
    go_upto_region 2 with (fail)
    refine wp_region_lit ?_
    refine wpList_mkmap rfl _ rfl ?_
    refine Go.Great.wpList_readTo rfl _ rfl (.agg #[.func (.func 101) #[] #[], .func (.func 102) #[] #[]]) (by simp [execOp, Act.eval, Act.put, go_sem]) ?_
    refine wpList_put rfl _ _ _ _ _ _ rfl w.heap.size #[] 0 ⟨#[115, 101, 97, 108]⟩ (.agg #[.func (.func 101) #[] #[], .func (.func 102) #[] #[]]) rfl rfl rfl und_box und_str (World.alloc_heap_new _ _) rfl ?_
    refine Go.Great.wpList_readTo rfl _ rfl (.agg #[.func (.func 103) #[] #[], .func (.func 104) #[] #[]]) (by simp [execOp, Act.eval, Act.put, go_sem]) ?_
    refine wpList_put rfl _ _ _ _ _ _ rfl w.heap.size #[{ key := .string ⟨#[115, 101, 97, 108]⟩, val := .agg #[.func (.func 101) #[] #[], .func (.func 102) #[] #[]], born := 0 }] 1 ⟨#[111, 112, 101, 110]⟩ (.agg #[.func (.func 103) #[] #[], .func (.func 104) #[] #[]]) rfl rfl rfl und_box und_str (World.putObj_heap_same (alloc_lt _ _)) (by kernel_rfl) ?_
    refine wpList_world w w.heap.size ?_ (two_heap _ _ _ _) (two_grown _ _ _ _)
    intro x1 hM hgM
    simp only [Act.put, List.setIfInBounds_toArray, List.set_cons_succ, List.set_cons_zero, List.push_toArray, List.cons_append, List.nil_append] at hM ⊢
    have hlk := run_look _ _ _ _ _ _ ⟨#[115, 101, 97, 108]⟩ und_box und_str hM (some (0, .agg #[.func (.func 101) #[] #[], .func (.func 102) #[] #[]])) (by kernel_rfl) funZ (zero_box _)
    have hsn := fun (p : Addr) (m : Mode) (W : World) => run_store Tryz.prog W p .nilFunc m rfl
    unfold lookV funZ at hlk
    simp only at hlk
    clear hM
    have hgx1 := grow_alloc hgM (.cells #[.func (.func 101) #[] #[], .func (.func 102) #[] #[]] 159)
    go_wp2_with fail
    (with_reducible refine (A2 _ hgx1).mono ?_)
    rintro e x2 ⟨v, rfl, hrx, hg2⟩
    obtain ⟨g, cp, rfl, _, _, hcp2, hcm, hcell⟩ := srow_cells hrx (by simp)
    have c0 : x2.cell? ⟨g, 0, none⟩ = some (.string ⟨a.toArray⟩) := hcell 0 (by simp)
    have c1 : x2.cell? ⟨g, 1, none⟩ = some (.string ⟨b.toArray⟩) := hcell 1 (by simp)
    have c2 : x2.cell? ⟨g, 2, none⟩ = some (.string ⟨c.toArray⟩) := hcell 2 (by simp)
    have c3 : x2.cell? ⟨g, 3, none⟩ = some (.string ⟨d.toArray⟩) := hcell 3 (by simp)
    have hg0 := grow_trans hgx1 hg2
    clear hcell hrx A1 A2 hgx1 hlk hsn hgM
    have cF := hg2.cell (a := ⟨x1.heap.size, 1, none⟩) (v := .func (.func 102) #[] #[]) (by rw [obj_cell (obj_new x1 _)]; rfl) (by simp)
    generalize x1.heap.size = F at *
    clear hg2
    go_wp2_with fail
    refine wp_drawn_tail (by kernel_rfl) ?_
    refine drawn_tail 19 [47, 48, 49, 50, 51, 52, 53, 54, 55, 56, 57, 58, 59, 60, 61, 62, 63, 64, 65] [(PEq (.int .i64 2)), (PEq (.int .i64 1)), (PEq (.pointer (some ⟨F, 1, none⟩))), (PEq (.func (.func 102) #[] #[])), (PEq (.slice (some ⟨g, 0, none⟩) 4 cp)), (PEq (.pointer (some ⟨g, 0, none⟩))), (PEq (.string ⟨a.toArray⟩)), (PEq (.slice (some ⟨g, 0, none⟩) 4 cp)), (PEq (.pointer (some ⟨g, 1, none⟩))), (PEq (.string ⟨b.toArray⟩)), (PEq (.slice (some ⟨g, 0, none⟩) 4 cp)), (PEq (.pointer (some ⟨g, 2, none⟩))), (PEq (.string ⟨c.toArray⟩)), (PEq (.slice (some ⟨g, 0, none⟩) 4 cp)), (PEq (.pointer (some ⟨g, 3, none⟩))), (PEq (.string ⟨d.toArray⟩)), (PEq (.tuple #[.string ⟨s.toArray⟩, .int .i64 (q : Int)])), (PEq (.string ⟨s.toArray⟩)), (PEq (.int .i64 (q : Int)))] (by kernel_rfl) (by kernel_rfl) (by kernel_rfl) (by kernel_rfl) (by decide) (by decide) (by rfl) ?_ ?_ ?_
    · exact ⟨mono_eq _, mono_eq _, mono_eq _, mono_eq _, mono_eq _, mono_eq _, mono_eq _, mono_eq _, mono_eq _, mono_eq _, mono_eq _, mono_eq _, mono_eq _, mono_eq _, mono_eq _, mono_eq _, mono_eq _, mono_eq _, mono_eq _, True.intro⟩
    · intro vs x hl hg
      obtain ⟨v0, v1, v2, v3, v4, v5, v6, v7, v8, v9, v10, v11, v12, v13, v14, v15, v16, v17, v18, rfl⟩ := lenD19 hl
      simp only [layAll, Act.put, List.setIfInBounds_toArray, List.set_cons_succ, List.set_cons_zero]
      have q0 := hg.cell c0 (by simp)
      have q1 := hg.cell c1 (by simp)
      have q2 := hg.cell c2 (by simp)
      have q3 := hg.cell c3 (by simp)
      have q4 := hg.cell cF (by simp)
      clear c0 c1 c2 c3 cF hg0
      refine stepsL_cons (fun K hw hr hK => ?_) <| stepsL_cons (fun K hw hr hK => ?_) <| stepsL_cons (fun K hw hr hK => ?_) <| stepsL_cons (fun K hw hr hK => ?_) <| stepsL_cons (fun K hw hr hK => ?_) <| stepsL_cons (fun K hw hr hK => ?_) <| stepsL_cons (fun K hw hr hK => ?_) <| stepsL_cons (fun K hw hr hK => ?_) <| stepsL_cons (fun K hw hr hK => ?_) <| stepsL_cons (fun K hw hr hK => ?_) <| stepsL_cons (fun K hw hr hK => ?_) <| stepsL_cons (fun K hw hr hK => ?_) <| stepsL_cons (fun K hw hr hK => ?_) <| stepsL_cons (fun K hw hr hK => ?_) <| stepsL_cons (fun K hw hr hK => ?_) <| stepsL_cons (fun K hw hr hK => ?_) <| stepsL_cons (fun K hw hr hK => ?_) <| stepsL_cons (fun K hw hr hK => ?_) <| stepsL_cons (fun K hw hr hK => ?_) <| stepsL_nil
      · -- 0: move
        unfold Oper.wp
        go_simp
        exact hK _ _ rfl (grow_refl _ _)
      · -- 1: binOp
        have f0 : v0 = _ := hw 0 (by kernel_rfl)
        subst f0
        unfold Oper.wp
        go_simp
        exact hK _ _ rfl (grow_refl _ _)
      · -- 2: indexAddr
        have f1 : v1 = _ := hw 1 (by kernel_rfl)
        subst f1
        unfold Oper.wp
        go_simp
        exact hK _ _ rfl (grow_refl _ _)
      · -- 3: load
        have f2 : v2 = _ := hw 2 (by kernel_rfl)
        subst f2
        unfold Oper.wp
        go_simp
        exact hK _ _ rfl (grow_refl _ _)
      · -- 4: move
        unfold Oper.wp
        go_simp
        exact hK _ _ rfl (grow_refl _ _)
      · -- 5: indexAddr
        have f4 : v4 = _ := hw 4 (by kernel_rfl)
        subst f4
        unfold Oper.wp
        go_simp
        exact hK _ _ rfl (grow_refl _ _)
      · -- 6: load
        have f5 : v5 = _ := hw 5 (by kernel_rfl)
        subst f5
        unfold Oper.wp
        go_simp
        exact hK _ _ rfl (grow_refl _ _)
      · -- 7: move
        unfold Oper.wp
        go_simp
        exact hK _ _ rfl (grow_refl _ _)
      · -- 8: indexAddr
        have f7 : v7 = _ := hw 7 (by kernel_rfl)
        subst f7
        unfold Oper.wp
        go_simp
        exact hK _ _ rfl (grow_refl _ _)
      · -- 9: load
        have f8 : v8 = _ := hw 8 (by kernel_rfl)
        subst f8
        unfold Oper.wp
        go_simp
        exact hK _ _ rfl (grow_refl _ _)
      · -- 10: move
        unfold Oper.wp
        go_simp
        exact hK _ _ rfl (grow_refl _ _)
      · -- 11: indexAddr
        have f10 : v10 = _ := hw 10 (by kernel_rfl)
        subst f10
        unfold Oper.wp
        go_simp
        exact hK _ _ rfl (grow_refl _ _)
      · -- 12: load
        have f11 : v11 = _ := hw 11 (by kernel_rfl)
        subst f11
        unfold Oper.wp
        go_simp
        exact hK _ _ rfl (grow_refl _ _)
      · -- 13: move
        unfold Oper.wp
        go_simp
        exact hK _ _ rfl (grow_refl _ _)
      · -- 14: indexAddr
        have f13 : v13 = _ := hw 13 (by kernel_rfl)
        subst f13
        unfold Oper.wp
        go_simp
        exact hK _ _ rfl (grow_refl _ _)
      · -- 15: load
        have f14 : v14 = _ := hw 14 (by kernel_rfl)
        subst f14
        unfold Oper.wp
        go_simp
        exact hK _ _ rfl (grow_refl _ _)
      · -- 16: call
        have f3 : v3 = _ := hw 3 (by kernel_rfl)
        subst f3
        have f6 : v6 = _ := hw 6 (by kernel_rfl)
        subst f6
        have f9 : v9 = _ := hw 9 (by kernel_rfl)
        subst f9
        have f12 : v12 = _ := hw 12 (by kernel_rfl)
        subst f12
        have f15 : v15 = _ := hw 15 (by kernel_rfl)
        subst f15
        unfold Oper.wp
        go_simp
        (with_reducible refine (A _).mono ?_)
        rintro e y ⟨rfl, hg2⟩
        exact hK _ _ rfl hg2
      · -- 17: extract
        have f16 : v16 = _ := hw 16 (by kernel_rfl)
        subst f16
        unfold Oper.wp
        go_simp
        exact hK _ _ rfl (grow_refl _ _)
      · -- 18: extract
        have f16 : v16 = _ := hw 16 (by kernel_rfl)
        subst f16
        unfold Oper.wp
        go_simp
        exact hK _ _ rfl (grow_refl _ _)
    · intro vs x hl hg hp
      obtain ⟨v0, v1, v2, v3, v4, v5, v6, v7, v8, v9, v10, v11, v12, v13, v14, v15, v16, v17, v18, rfl⟩ := lenD19 hl
      have f0 : v0 = _ := hp 0 _ rfl
      have f1 : v1 = _ := hp 1 _ rfl
      have f2 : v2 = _ := hp 2 _ rfl
      have f3 : v3 = _ := hp 3 _ rfl
      have f4 : v4 = _ := hp 4 _ rfl
      have f5 : v5 = _ := hp 5 _ rfl
      have f6 : v6 = _ := hp 6 _ rfl
      have f7 : v7 = _ := hp 7 _ rfl
      have f8 : v8 = _ := hp 8 _ rfl
      have f9 : v9 = _ := hp 9 _ rfl
      have f10 : v10 = _ := hp 10 _ rfl
      have f11 : v11 = _ := hp 11 _ rfl
      have f12 : v12 = _ := hp 12 _ rfl
      have f13 : v13 = _ := hp 13 _ rfl
      have f14 : v14 = _ := hp 14 _ rfl
      have f15 : v15 = _ := hp 15 _ rfl
      have f16 : v16 = _ := hp 16 _ rfl
      have f17 : v17 = _ := hp 17 _ rfl
      have f18 : v18 = _ := hp 18 _ rfl
      subst f0
      subst f1
      subst f2
      subst f3
      subst f4
      subst f5
      subst f6
      subst f7
      subst f8
      subst f9
      subst f10
      subst f11
      subst f12
      subst f13
      subst f14
      subst f15
      subst f16
      subst f17
      subst f18
      simp only [layAll, Act.put, List.setIfInBounds_toArray, List.set_cons_succ, List.set_cons_zero]
      simp only [List.drop_succ_cons, List.drop_zero]
      clear hp hl
      have hgx := grow_trans hg0 hg
      clear hg hg0 A c0 c1 c2 c3 cF
      go_wp2_with fail
      (with_reducible refine (D _).mono ?_)
      intro e y hy
      cases r with
      | some t =>
        obtain ⟨rfl, hg2⟩ := hy
        unfold S
        go_wp2_with fail
        go_ret
        exact ⟨rfl, grow_trans hgx hg2⟩
      | none =>
        obtain ⟨rfl, hg2⟩ := hy
        exact ⟨rfl, rfl, grow_trans hgx hg2⟩
  · refine ⟨none, m, h1, h2, fun t e => (nomatch e), fun w bk o cap hrow hc1 hc2 => ?_⟩
    rcases Nat.lt_or_ge 1 cap with hcap | hcap
    · have hcap2 : ¬ cap = 1 := by rw [List.length_cons] at hc1; omega
      have hcp : ss.length ≤ cap - 1 := by rw [List.length_cons] at hc1; omega
      have hcq : cap - 1 ≤ maxLen := by omega
      have A1 := hs w bk o cap hrow hc1 hc2
      have A2 : ∀ x : World, w.grownBy x none → Calls Tryz.prog 47 #[.slice (some ⟨bk, o + 1, none⟩) ss.length (cap - 1), .int .i64 4] x (Thrown m x) := fun x hg => C x bk (o + 1) (cap - 1) (hrow.tail.kept hg) hcp hcq
      unfold SPost at A1
      unfold Thrown at A2
      rw [List.length_cons] at *
      clear hs hrow C hf hb
      unfold TPost Thrown S at *
      go_enter Tryz.func59, Tryz.ntmps59
      go_wp2_with fail
      (with_reducible refine A1.mono ?_)
      rintro e x0 ⟨rfl, rfl⟩
      go_upto_region 2 with (fail)
      refine wp_region_lit ?_
      refine wpList_mkmap rfl _ rfl ?_
      refine Go.Great.wpList_readTo rfl _ rfl (.agg #[.func (.func 101) #[] #[], .func (.func 102) #[] #[]]) (by simp [execOp, Act.eval, Act.put, go_sem]) ?_
      refine wpList_put rfl _ _ _ _ _ _ rfl w.heap.size #[] 0 ⟨#[115, 101, 97, 108]⟩ (.agg #[.func (.func 101) #[] #[], .func (.func 102) #[] #[]]) rfl rfl rfl und_box und_str (World.alloc_heap_new _ _) rfl ?_
      refine Go.Great.wpList_readTo rfl _ rfl (.agg #[.func (.func 103) #[] #[], .func (.func 104) #[] #[]]) (by simp [execOp, Act.eval, Act.put, go_sem]) ?_
      refine wpList_put rfl _ _ _ _ _ _ rfl w.heap.size #[{ key := .string ⟨#[115, 101, 97, 108]⟩, val := .agg #[.func (.func 101) #[] #[], .func (.func 102) #[] #[]], born := 0 }] 1 ⟨#[111, 112, 101, 110]⟩ (.agg #[.func (.func 103) #[] #[], .func (.func 104) #[] #[]]) rfl rfl rfl und_box und_str (World.putObj_heap_same (alloc_lt _ _)) (by kernel_rfl) ?_
      refine wpList_world w w.heap.size ?_ (two_heap _ _ _ _) (two_grown _ _ _ _)
      intro x1 hM hgM
      simp only [Act.put, List.setIfInBounds_toArray, List.set_cons_succ, List.set_cons_zero, List.push_toArray, List.cons_append, List.nil_append] at hM ⊢
      have hlk := run_look _ _ _ _ _ _ ⟨#[115, 101, 97, 108]⟩ und_box und_str hM (some (0, .agg #[.func (.func 101) #[] #[], .func (.func 102) #[] #[]])) (by kernel_rfl) funZ (zero_box _)
      have hsn := fun (p : Addr) (m : Mode) (W : World) => run_store Tryz.prog W p .nilFunc m rfl
      unfold lookV funZ at hlk
      simp only at hlk
      clear hM
      have hgx1 := grow_alloc hgM (.cells #[.func (.func 101) #[] #[], .func (.func 102) #[] #[]] 159)
      go_wp2_with fail
      (with_reducible refine (A2 _ hgx1).mono ?_)
      rintro e x2 ⟨rfl, hg2⟩
      exact ⟨rfl, rfl, grow_trans hgx1 hg2⟩
    · obtain rfl : ss = [] := List.eq_nil_of_length_eq_zero (by rw [List.length_cons] at hc1; omega)
      obtain rfl : cap = 1 := by simp at hc1; omega
      have A1 := hs w bk o 1 hrow hc1 hc2
      have A2 : ∀ x : World, w.grownBy x none → Calls Tryz.prog 47 #[.slice (some ⟨bk, o, none⟩) 0 0, .int .i64 4] x (Thrown m x) := fun x hg => C x bk o 0 (fun i hi => absurd hi (by simp)) (by simp) (by simp)
      unfold SPost at A1
      unfold Thrown at A2
      simp only [List.length_cons, List.length_nil, Nat.zero_add] at *
      clear hs hrow C hf hb
      unfold TPost Thrown S at *
      go_enter Tryz.func59, Tryz.ntmps59
      go_wp2_with fail
      (with_reducible refine A1.mono ?_)
      rintro e x0 ⟨rfl, rfl⟩
      go_upto_region 2 with (fail)
      refine wp_region_lit ?_
      refine wpList_mkmap rfl _ rfl ?_
      refine Go.Great.wpList_readTo rfl _ rfl (.agg #[.func (.func 101) #[] #[], .func (.func 102) #[] #[]]) (by simp [execOp, Act.eval, Act.put, go_sem]) ?_
      refine wpList_put rfl _ _ _ _ _ _ rfl w.heap.size #[] 0 ⟨#[115, 101, 97, 108]⟩ (.agg #[.func (.func 101) #[] #[], .func (.func 102) #[] #[]]) rfl rfl rfl und_box und_str (World.alloc_heap_new _ _) rfl ?_
      refine Go.Great.wpList_readTo rfl _ rfl (.agg #[.func (.func 103) #[] #[], .func (.func 104) #[] #[]]) (by simp [execOp, Act.eval, Act.put, go_sem]) ?_
      refine wpList_put rfl _ _ _ _ _ _ rfl w.heap.size #[{ key := .string ⟨#[115, 101, 97, 108]⟩, val := .agg #[.func (.func 101) #[] #[], .func (.func 102) #[] #[]], born := 0 }] 1 ⟨#[111, 112, 101, 110]⟩ (.agg #[.func (.func 103) #[] #[], .func (.func 104) #[] #[]]) rfl rfl rfl und_box und_str (World.putObj_heap_same (alloc_lt _ _)) (by kernel_rfl) ?_
      refine wpList_world w w.heap.size ?_ (two_heap _ _ _ _) (two_grown _ _ _ _)
      intro x1 hM hgM
      simp only [Act.put, List.setIfInBounds_toArray, List.set_cons_succ, List.set_cons_zero, List.push_toArray, List.cons_append, List.nil_append] at hM ⊢
      have hlk := run_look _ _ _ _ _ _ ⟨#[115, 101, 97, 108]⟩ und_box und_str hM (some (0, .agg #[.func (.func 101) #[] #[], .func (.func 102) #[] #[]])) (by kernel_rfl) funZ (zero_box _)
      have hsn := fun (p : Addr) (m : Mode) (W : World) => run_store Tryz.prog W p .nilFunc m rfl
      unfold lookV funZ at hlk
      simp only at hlk
      clear hM
      have hgx1 := grow_alloc hgM (.cells #[.func (.func 101) #[] #[], .func (.func 102) #[] #[]] 159)
      go_wp2_with fail
      (with_reducible refine (A2 _ hgx1).mono ?_)
      rintro e x2 ⟨rfl, hg2⟩
      exact ⟨rfl, rfl, grow_trans hgx1 hg2⟩

set_option maxRecDepth 20000 in
set_option maxHeartbeats 1000000 in
theorem sealed_open1 (h : List UInt8) (ss : List (List UInt8)) (hs : OverRow 100 (fun v => #[v]) (h :: ss) (SPost (some 1))) (hb : ∀ s ∈ ss, s.length ≤ 2000) (hn : ss.length ≤ 1000) (hf : ∀ a b c d : List UInt8, a.length ≤ 2000 → b.length ≤ 2000 → c.length ≤ 2000 → d.length ≤ 2000 → AnyTE 103 #[S a, S b, S c, S d]) : AnyL 59 (fun v => #[S [111, 112, 101, 110], v]) (h :: ss) := by
  rcases any_texts ss 4 (by omega) hb hn with ⟨ts, hl, hbt, h0, C⟩ | ⟨m, h1, h2, C⟩
  · obtain ⟨a, b, c, d, rfl⟩ : ∃ a b c d, ts = [a, b, c, d] := by
      match ts, hl with
      | [a, b, c, d], _ => exact ⟨a, b, c, d, rfl⟩
    obtain ⟨s, q, hs1, hq15, A⟩ := hf a b c d (hbt a (by simp)) (hbt b (by simp)) (hbt c (by simp)) (hbt d (by simp))
    obtain ⟨r, m, m1, m2, hr, D⟩ := told_form s hs1 q hq15
    refine ⟨r, m, m1, m2, hr, fun w bk o cap hrow hc1 hc2 => ?_⟩
    have hcap2 : ¬ cap = 1 := by rw [List.length_cons] at hc1; omega
    have hcp : ss.length ≤ cap - 1 := by rw [List.length_cons] at hc1; omega
    have hcq : cap - 1 ≤ maxLen := by omega
    have A1 := hs w bk o cap hrow hc1 hc2
    have A2 : ∀ x : World, w.grownBy x none → Calls Tryz.prog 47 #[.slice (some ⟨bk, o + 1, none⟩) ss.length (cap - 1), .int .i64 4] x (RowIs [a, b, c, d] x) := fun x hg => C x bk (o + 1) (cap - 1) (hrow.tail.kept hg) hcp hcq
    unfold SPost at A1
    unfold RowIs at A2
    rw [List.length_cons] at *
    clear hs hrow C hr hbt hf hs1 hq15 hb hl h0
    unfold S at A D ⊢
    go_enter Tryz.func59, Tryz.ntmps59
    go_wp2_with fail
    (with_reducible refine A1.mono ?_)
    rintro e x0 ⟨rfl, rfl⟩
    go_upto_region 2 with (fail)
    refine wp_region_lit ?_
    refine wpList_mkmap rfl _ rfl ?_
    refine Go.Great.wpList_readTo rfl _ rfl (.agg #[.func (.func 101) #[] #[], .func (.func 102) #[] #[]]) (by simp [execOp, Act.eval, Act.put, go_sem]) ?_
    refine wpList_put rfl _ _ _ _ _ _ rfl w.heap.size #[] 0 ⟨#[115, 101, 97, 108]⟩ (.agg #[.func (.func 101) #[] #[], .func (.func 102) #[] #[]]) rfl rfl rfl und_box und_str (World.alloc_heap_new _ _) rfl ?_
    refine Go.Great.wpList_readTo rfl _ rfl (.agg #[.func (.func 103) #[] #[], .func (.func 104) #[] #[]]) (by simp [execOp, Act.eval, Act.put, go_sem]) ?_
    refine wpList_put rfl _ _ _ _ _ _ rfl w.heap.size #[{ key := .string ⟨#[115, 101, 97, 108]⟩, val := .agg #[.func (.func 101) #[] #[], .func (.func 102) #[] #[]], born := 0 }] 1 ⟨#[111, 112, 101, 110]⟩ (.agg #[.func (.func 103) #[] #[], .func (.func 104) #[] #[]]) rfl rfl rfl und_box und_str (World.putObj_heap_same (alloc_lt _ _)) (by kernel_rfl) ?_
    refine wpList_world w w.heap.size ?_ (two_heap _ _ _ _) (two_grown _ _ _ _)
    intro x1 hM hgM
    simp only [Act.put, List.setIfInBounds_toArray, List.set_cons_succ, List.set_cons_zero, List.push_toArray, List.cons_append, List.nil_append] at hM ⊢
    have hlk := run_look _ _ _ _ _ _ ⟨#[111, 112, 101, 110]⟩ und_box und_str hM (some (1, .agg #[.func (.func 103) #[] #[], .func (.func 104) #[] #[]])) (by kernel_rfl) funZ (zero_box _)
    have hsn := fun (p : Addr) (m : Mode) (W : World) => run_store Tryz.prog W p .nilFunc m rfl
    unfold lookV funZ at hlk
    simp only at hlk
    clear hM
    have hgx1 := grow_alloc hgM (.cells #[.func (.func 103) #[] #[], .func (.func 104) #[] #[]] 159)
    go_wp2_with fail
    (with_reducible refine (A2 _ hgx1).mono ?_)
    rintro e x2 ⟨v, rfl, hrx, hg2⟩
    obtain ⟨g, cp, rfl, _, _, hcp2, hcm, hcell⟩ := srow_cells hrx (by simp)
    have c0 : x2.cell? ⟨g, 0, none⟩ = some (.string ⟨a.toArray⟩) := hcell 0 (by simp)
    have c1 : x2.cell? ⟨g, 1, none⟩ = some (.string ⟨b.toArray⟩) := hcell 1 (by simp)
    have c2 : x2.cell? ⟨g, 2, none⟩ = some (.string ⟨c.toArray⟩) := hcell 2 (by simp)
    have c3 : x2.cell? ⟨g, 3, none⟩ = some (.string ⟨d.toArray⟩) := hcell 3 (by simp)
    have hg0 := grow_trans hgx1 hg2
    clear hcell hrx A1 A2 hgx1 hlk hsn hgM
    have cF := hg2.cell (a := ⟨x1.heap.size, 0, none⟩) (v := .func (.func 103) #[] #[]) (by rw [obj_cell (obj_new x1 _)]; rfl) (by simp)
    generalize x1.heap.size = F at *
    clear hg2
    go_wp2_with fail
    refine wp_drawn_tail (by kernel_rfl) ?_
    refine drawn_tail 19 [47, 48, 49, 50, 51, 52, 53, 54, 55, 56, 57, 58, 59, 60, 61, 62, 63, 64, 65] [(PEq (.int .i64 1)), (PEq (.int .i64 0)), (PEq (.pointer (some ⟨F, 0, none⟩))), (PEq (.func (.func 103) #[] #[])), (PEq (.slice (some ⟨g, 0, none⟩) 4 cp)), (PEq (.pointer (some ⟨g, 0, none⟩))), (PEq (.string ⟨a.toArray⟩)), (PEq (.slice (some ⟨g, 0, none⟩) 4 cp)), (PEq (.pointer (some ⟨g, 1, none⟩))), (PEq (.string ⟨b.toArray⟩)), (PEq (.slice (some ⟨g, 0, none⟩) 4 cp)), (PEq (.pointer (some ⟨g, 2, none⟩))), (PEq (.string ⟨c.toArray⟩)), (PEq (.slice (some ⟨g, 0, none⟩) 4 cp)), (PEq (.pointer (some ⟨g, 3, none⟩))), (PEq (.string ⟨d.toArray⟩)), (PEq (.tuple #[.string ⟨s.toArray⟩, .int .i64 (q : Int)])), (PEq (.string ⟨s.toArray⟩)), (PEq (.int .i64 (q : Int)))] (by kernel_rfl) (by kernel_rfl) (by kernel_rfl) (by kernel_rfl) (by decide) (by decide) (by rfl) ?_ ?_ ?_
    · exact ⟨mono_eq _, mono_eq _, mono_eq _, mono_eq _, mono_eq _, mono_eq _, mono_eq _, mono_eq _, mono_eq _, mono_eq _, mono_eq _, mono_eq _, mono_eq _, mono_eq _, mono_eq _, mono_eq _, mono_eq _, mono_eq _, mono_eq _, True.intro⟩
    · intro vs x hl hg
      obtain ⟨v0, v1, v2, v3, v4, v5, v6, v7, v8, v9, v10, v11, v12, v13, v14, v15, v16, v17, v18, rfl⟩ := lenD19 hl
      simp only [layAll, Act.put, List.setIfInBounds_toArray, List.set_cons_succ, List.set_cons_zero]
      have q0 := hg.cell c0 (by simp)
      have q1 := hg.cell c1 (by simp)
      have q2 := hg.cell c2 (by simp)
      have q3 := hg.cell c3 (by simp)
      have q4 := hg.cell cF (by simp)
      clear c0 c1 c2 c3 cF hg0
      refine stepsL_cons (fun K hw hr hK => ?_) <| stepsL_cons (fun K hw hr hK => ?_) <| stepsL_cons (fun K hw hr hK => ?_) <| stepsL_cons (fun K hw hr hK => ?_) <| stepsL_cons (fun K hw hr hK => ?_) <| stepsL_cons (fun K hw hr hK => ?_) <| stepsL_cons (fun K hw hr hK => ?_) <| stepsL_cons (fun K hw hr hK => ?_) <| stepsL_cons (fun K hw hr hK => ?_) <| stepsL_cons (fun K hw hr hK => ?_) <| stepsL_cons (fun K hw hr hK => ?_) <| stepsL_cons (fun K hw hr hK => ?_) <| stepsL_cons (fun K hw hr hK => ?_) <| stepsL_cons (fun K hw hr hK => ?_) <| stepsL_cons (fun K hw hr hK => ?_) <| stepsL_cons (fun K hw hr hK => ?_) <| stepsL_cons (fun K hw hr hK => ?_) <| stepsL_cons (fun K hw hr hK => ?_) <| stepsL_cons (fun K hw hr hK => ?_) <| stepsL_nil
      · -- 0: move
        unfold Oper.wp
        go_simp
        exact hK _ _ rfl (grow_refl _ _)
      · -- 1: binOp
        have f0 : v0 = _ := hw 0 (by kernel_rfl)
        subst f0
        unfold Oper.wp
        go_simp
        exact hK _ _ rfl (grow_refl _ _)
      · -- 2: indexAddr
        have f1 : v1 = _ := hw 1 (by kernel_rfl)
        subst f1
        unfold Oper.wp
        go_simp
        exact hK _ _ rfl (grow_refl _ _)
      · -- 3: load
        have f2 : v2 = _ := hw 2 (by kernel_rfl)
        subst f2
        unfold Oper.wp
        go_simp
        exact hK _ _ rfl (grow_refl _ _)
      · -- 4: move
        unfold Oper.wp
        go_simp
        exact hK _ _ rfl (grow_refl _ _)
      · -- 5: indexAddr
        have f4 : v4 = _ := hw 4 (by kernel_rfl)
        subst f4
        unfold Oper.wp
        go_simp
        exact hK _ _ rfl (grow_refl _ _)
      · -- 6: load
        have f5 : v5 = _ := hw 5 (by kernel_rfl)
        subst f5
        unfold Oper.wp
        go_simp
        exact hK _ _ rfl (grow_refl _ _)
      · -- 7: move
        unfold Oper.wp
        go_simp
        exact hK _ _ rfl (grow_refl _ _)
      · -- 8: indexAddr
        have f7 : v7 = _ := hw 7 (by kernel_rfl)
        subst f7
        unfold Oper.wp
        go_simp
        exact hK _ _ rfl (grow_refl _ _)
      · -- 9: load
        have f8 : v8 = _ := hw 8 (by kernel_rfl)
        subst f8
        unfold Oper.wp
        go_simp
        exact hK _ _ rfl (grow_refl _ _)
      · -- 10: move
        unfold Oper.wp
        go_simp
        exact hK _ _ rfl (grow_refl _ _)
      · -- 11: indexAddr
        have f10 : v10 = _ := hw 10 (by kernel_rfl)
        subst f10
        unfold Oper.wp
        go_simp
        exact hK _ _ rfl (grow_refl _ _)
      · -- 12: load
        have f11 : v11 = _ := hw 11 (by kernel_rfl)
        subst f11
        unfold Oper.wp
        go_simp
        exact hK _ _ rfl (grow_refl _ _)
      · -- 13: move
        unfold Oper.wp
        go_simp
        exact hK _ _ rfl (grow_refl _ _)
      · -- 14: indexAddr
        have f13 : v13 = _ := hw 13 (by kernel_rfl)
        subst f13
        unfold Oper.wp
        go_simp
        exact hK _ _ rfl (grow_refl _ _)
      · -- 15: load
        have f14 : v14 = _ := hw 14 (by kernel_rfl)
        subst f14
        unfold Oper.wp
        go_simp
        exact hK _ _ rfl (grow_refl _ _)
      · -- 16: call
        have f3 : v3 = _ := hw 3 (by kernel_rfl)
        subst f3
        have f6 : v6 = _ := hw 6 (by kernel_rfl)
        subst f6
        have f9 : v9 = _ := hw 9 (by kernel_rfl)
        subst f9
        have f12 : v12 = _ := hw 12 (by kernel_rfl)
        subst f12
        have f15 : v15 = _ := hw 15 (by kernel_rfl)
        subst f15
        unfold Oper.wp
        go_simp
        (with_reducible refine (A _).mono ?_)
        rintro e y ⟨rfl, hg2⟩
        exact hK _ _ rfl hg2
      · -- 17: extract
        have f16 : v16 = _ := hw 16 (by kernel_rfl)
        subst f16
        unfold Oper.wp
        go_simp
        exact hK _ _ rfl (grow_refl _ _)
      · -- 18: extract
        have f16 : v16 = _ := hw 16 (by kernel_rfl)
        subst f16
        unfold Oper.wp
        go_simp
        exact hK _ _ rfl (grow_refl _ _)
    · intro vs x hl hg hp
      obtain ⟨v0, v1, v2, v3, v4, v5, v6, v7, v8, v9, v10, v11, v12, v13, v14, v15, v16, v17, v18, rfl⟩ := lenD19 hl
      have f0 : v0 = _ := hp 0 _ rfl
      have f1 : v1 = _ := hp 1 _ rfl
      have f2 : v2 = _ := hp 2 _ rfl
      have f3 : v3 = _ := hp 3 _ rfl
      have f4 : v4 = _ := hp 4 _ rfl
      have f5 : v5 = _ := hp 5 _ rfl
      have f6 : v6 = _ := hp 6 _ rfl
      have f7 : v7 = _ := hp 7 _ rfl
      have f8 : v8 = _ := hp 8 _ rfl
      have f9 : v9 = _ := hp 9 _ rfl
      have f10 : v10 = _ := hp 10 _ rfl
      have f11 : v11 = _ := hp 11 _ rfl
      have f12 : v12 = _ := hp 12 _ rfl
      have f13 : v13 = _ := hp 13 _ rfl
      have f14 : v14 = _ := hp 14 _ rfl
      have f15 : v15 = _ := hp 15 _ rfl
      have f16 : v16 = _ := hp 16 _ rfl
      have f17 : v17 = _ := hp 17 _ rfl
      have f18 : v18 = _ := hp 18 _ rfl
      subst f0
      subst f1
      subst f2
      subst f3
      subst f4
      subst f5
      subst f6
      subst f7
      subst f8
      subst f9
      subst f10
      subst f11
      subst f12
      subst f13
      subst f14
      subst f15
      subst f16
      subst f17
      subst f18
      simp only [layAll, Act.put, List.setIfInBounds_toArray, List.set_cons_succ, List.set_cons_zero]
      simp only [List.drop_succ_cons, List.drop_zero]
      clear hp hl
      have hgx := grow_trans hg0 hg
      clear hg hg0 A c0 c1 c2 c3 cF
      go_wp2_with fail
      (with_reducible refine (D _).mono ?_)
      intro e y hy
      cases r with
      | some t =>
        obtain ⟨rfl, hg2⟩ := hy
        unfold S
        go_wp2_with fail
        go_ret
        exact ⟨rfl, grow_trans hgx hg2⟩
      | none =>
        obtain ⟨rfl, hg2⟩ := hy
        exact ⟨rfl, rfl, grow_trans hgx hg2⟩
  · refine ⟨none, m, h1, h2, fun t e => (nomatch e), fun w bk o cap hrow hc1 hc2 => ?_⟩
    rcases Nat.lt_or_ge 1 cap with hcap | hcap
    · have hcap2 : ¬ cap = 1 := by rw [List.length_cons] at hc1; omega
      have hcp : ss.length ≤ cap - 1 := by rw [List.length_cons] at hc1; omega
      have hcq : cap - 1 ≤ maxLen := by omega
      have A1 := hs w bk o cap hrow hc1 hc2
      have A2 : ∀ x : World, w.grownBy x none → Calls Tryz.prog 47 #[.slice (some ⟨bk, o + 1, none⟩) ss.length (cap - 1), .int .i64 4] x (Thrown m x) := fun x hg => C x bk (o + 1) (cap - 1) (hrow.tail.kept hg) hcp hcq
      unfold SPost at A1
      unfold Thrown at A2
      rw [List.length_cons] at *
      clear hs hrow C hf hb
      unfold TPost Thrown S at *
      go_enter Tryz.func59, Tryz.ntmps59
      go_wp2_with fail
      (with_reducible refine A1.mono ?_)
      rintro e x0 ⟨rfl, rfl⟩
      go_upto_region 2 with (fail)
      refine wp_region_lit ?_
      refine wpList_mkmap rfl _ rfl ?_
      refine Go.Great.wpList_readTo rfl _ rfl (.agg #[.func (.func 101) #[] #[], .func (.func 102) #[] #[]]) (by simp [execOp, Act.eval, Act.put, go_sem]) ?_
      refine wpList_put rfl _ _ _ _ _ _ rfl w.heap.size #[] 0 ⟨#[115, 101, 97, 108]⟩ (.agg #[.func (.func 101) #[] #[], .func (.func 102) #[] #[]]) rfl rfl rfl und_box und_str (World.alloc_heap_new _ _) rfl ?_
      refine Go.Great.wpList_readTo rfl _ rfl (.agg #[.func (.func 103) #[] #[], .func (.func 104) #[] #[]]) (by simp [execOp, Act.eval, Act.put, go_sem]) ?_
      refine wpList_put rfl _ _ _ _ _ _ rfl w.heap.size #[{ key := .string ⟨#[115, 101, 97, 108]⟩, val := .agg #[.func (.func 101) #[] #[], .func (.func 102) #[] #[]], born := 0 }] 1 ⟨#[111, 112, 101, 110]⟩ (.agg #[.func (.func 103) #[] #[], .func (.func 104) #[] #[]]) rfl rfl rfl und_box und_str (World.putObj_heap_same (alloc_lt _ _)) (by kernel_rfl) ?_
      refine wpList_world w w.heap.size ?_ (two_heap _ _ _ _) (two_grown _ _ _ _)
      intro x1 hM hgM
      simp only [Act.put, List.setIfInBounds_toArray, List.set_cons_succ, List.set_cons_zero, List.push_toArray, List.cons_append, List.nil_append] at hM ⊢
      have hlk := run_look _ _ _ _ _ _ ⟨#[111, 112, 101, 110]⟩ und_box und_str hM (some (1, .agg #[.func (.func 103) #[] #[], .func (.func 104) #[] #[]])) (by kernel_rfl) funZ (zero_box _)
      have hsn := fun (p : Addr) (m : Mode) (W : World) => run_store Tryz.prog W p .nilFunc m rfl
      unfold lookV funZ at hlk
      simp only at hlk
      clear hM
      have hgx1 := grow_alloc hgM (.cells #[.func (.func 103) #[] #[], .func (.func 104) #[] #[]] 159)
      go_wp2_with fail
      (with_reducible refine (A2 _ hgx1).mono ?_)
      rintro e x2 ⟨rfl, hg2⟩
      exact ⟨rfl, rfl, grow_trans hgx1 hg2⟩
    · obtain rfl : ss = [] := List.eq_nil_of_length_eq_zero (by rw [List.length_cons] at hc1; omega)
      obtain rfl : cap = 1 := by simp at hc1; omega
      have A1 := hs w bk o 1 hrow hc1 hc2
      have A2 : ∀ x : World, w.grownBy x none → Calls Tryz.prog 47 #[.slice (some ⟨bk, o, none⟩) 0 0, .int .i64 4] x (Thrown m x) := fun x hg => C x bk o 0 (fun i hi => absurd hi (by simp)) (by simp) (by simp)
      unfold SPost at A1
      unfold Thrown at A2
      simp only [List.length_cons, List.length_nil, Nat.zero_add] at *
      clear hs hrow C hf hb
      unfold TPost Thrown S at *
      go_enter Tryz.func59, Tryz.ntmps59
      go_wp2_with fail
      (with_reducible refine A1.mono ?_)
      rintro e x0 ⟨rfl, rfl⟩
      go_upto_region 2 with (fail)
      refine wp_region_lit ?_
      refine wpList_mkmap rfl _ rfl ?_
      refine Go.Great.wpList_readTo rfl _ rfl (.agg #[.func (.func 101) #[] #[], .func (.func 102) #[] #[]]) (by simp [execOp, Act.eval, Act.put, go_sem]) ?_
      refine wpList_put rfl _ _ _ _ _ _ rfl w.heap.size #[] 0 ⟨#[115, 101, 97, 108]⟩ (.agg #[.func (.func 101) #[] #[], .func (.func 102) #[] #[]]) rfl rfl rfl und_box und_str (World.alloc_heap_new _ _) rfl ?_
      refine Go.Great.wpList_readTo rfl _ rfl (.agg #[.func (.func 103) #[] #[], .func (.func 104) #[] #[]]) (by simp [execOp, Act.eval, Act.put, go_sem]) ?_
      refine wpList_put rfl _ _ _ _ _ _ rfl w.heap.size #[{ key := .string ⟨#[115, 101, 97, 108]⟩, val := .agg #[.func (.func 101) #[] #[], .func (.func 102) #[] #[]], born := 0 }] 1 ⟨#[111, 112, 101, 110]⟩ (.agg #[.func (.func 103) #[] #[], .func (.func 104) #[] #[]]) rfl rfl rfl und_box und_str (World.putObj_heap_same (alloc_lt _ _)) (by kernel_rfl) ?_
      refine wpList_world w w.heap.size ?_ (two_heap _ _ _ _) (two_grown _ _ _ _)
      intro x1 hM hgM
      simp only [Act.put, List.setIfInBounds_toArray, List.set_cons_succ, List.set_cons_zero, List.push_toArray, List.cons_append, List.nil_append] at hM ⊢
      have hlk := run_look _ _ _ _ _ _ ⟨#[111, 112, 101, 110]⟩ und_box und_str hM (some (1, .agg #[.func (.func 103) #[] #[], .func (.func 104) #[] #[]])) (by kernel_rfl) funZ (zero_box _)
      have hsn := fun (p : Addr) (m : Mode) (W : World) => run_store Tryz.prog W p .nilFunc m rfl
      unfold lookV funZ at hlk
      simp only at hlk
      clear hM
      have hgx1 := grow_alloc hgM (.cells #[.func (.func 103) #[] #[], .func (.func 104) #[] #[]] 159)
      go_wp2_with fail
      (with_reducible refine (A2 _ hgx1).mono ?_)
      rintro e x2 ⟨rfl, hg2⟩
      exact ⟨rfl, rfl, grow_trans hgx1 hg2⟩

set_option maxRecDepth 20000 in
set_option maxHeartbeats 1000000 in
theorem sealed_open2 (h : List UInt8) (ss : List (List UInt8)) (hs : OverRow 100 (fun v => #[v]) (h :: ss) (SPost (some 2))) (hb : ∀ s ∈ ss, s.length ≤ 2000) (hn : ss.length ≤ 1000) (hf : ∀ a b c d : List UInt8, a.length ≤ 2000 → b.length ≤ 2000 → c.length ≤ 2000 → d.length ≤ 2000 → AnyTE 104 #[S a, S b, S c, S d]) : AnyL 59 (fun v => #[S [111, 112, 101, 110], v]) (h :: ss) := by
  rcases any_texts ss 4 (by omega) hb hn with ⟨ts, hl, hbt, h0, C⟩ | ⟨m, h1, h2, C⟩
  · obtain ⟨a, b, c, d, rfl⟩ : ∃ a b c d, ts = [a, b, c, d] := by
      match ts, hl with
      | [a, b, c, d], _ => exact ⟨a, b, c, d, rfl⟩
    obtain ⟨s, q, hs1, hq15, A⟩ := hf a b c d (hbt a (by simp)) (hbt b (by simp)) (hbt c (by simp)) (hbt d (by simp))
    obtain ⟨r, m, m1, m2, hr, D⟩ := told_form s hs1 q hq15
    refine ⟨r, m, m1, m2, hr, fun w bk o cap hrow hc1 hc2 => ?_⟩
    have hcap2 : ¬ cap = 1 := by rw [List.length_cons] at hc1; omega
    have hcp : ss.length ≤ cap - 1 := by rw [List.length_cons] at hc1; omega
    have hcq : cap - 1 ≤ maxLen := by omega
    have A1 := hs w bk o cap hrow hc1 hc2
    have A2 : ∀ x : World, w.grownBy x none → Calls Tryz.prog 47 #[.slice (some ⟨bk, o + 1, none⟩) ss.length (cap - 1), .int .i64 4] x (RowIs [a, b, c, d] x) := fun x hg => C x bk (o + 1) (cap - 1) (hrow.tail.kept hg) hcp hcq
    unfold SPost at A1
    unfold RowIs at A2
    rw [List.length_cons] at *
    clear hs hrow C hr hbt hf hs1 hq15 hb hl h0
    unfold S at A D ⊢
    go_enter Tryz.func59, Tryz.ntmps59
    go_wp2_with fail
    (with_reducible refine A1.mono ?_)
    rintro e x0 ⟨rfl, rfl⟩
    go_upto_region 2 with (fail)
    refine wp_region_lit ?_
    refine wpList_mkmap rfl _ rfl ?_
    refine Go.Great.wpList_readTo rfl _ rfl (.agg #[.func (.func 101) #[] #[], .func (.func 102) #[] #[]]) (by simp [execOp, Act.eval, Act.put, go_sem]) ?_
    refine wpList_put rfl _ _ _ _ _ _ rfl w.heap.size #[] 0 ⟨#[115, 101, 97, 108]⟩ (.agg #[.func (.func 101) #[] #[], .func (.func 102) #[] #[]]) rfl rfl rfl und_box und_str (World.alloc_heap_new _ _) rfl ?_
    refine Go.Great.wpList_readTo rfl _ rfl (.agg #[.func (.func 103) #[] #[], .func (.func 104) #[] #[]]) (by simp [execOp, Act.eval, Act.put, go_sem]) ?_
    refine wpList_put rfl _ _ _ _ _ _ rfl w.heap.size #[{ key := .string ⟨#[115, 101, 97, 108]⟩, val := .agg #[.func (.func 101) #[] #[], .func (.func 102) #[] #[]], born := 0 }] 1 ⟨#[111, 112, 101, 110]⟩ (.agg #[.func (.func 103) #[] #[], .func (.func 104) #[] #[]]) rfl rfl rfl und_box und_str (World.putObj_heap_same (alloc_lt _ _)) (by kernel_rfl) ?_
    refine wpList_world w w.heap.size ?_ (two_heap _ _ _ _) (two_grown _ _ _ _)
    intro x1 hM hgM
    simp only [Act.put, List.setIfInBounds_toArray, List.set_cons_succ, List.set_cons_zero, List.push_toArray, List.cons_append, List.nil_append] at hM ⊢
    have hlk := run_look _ _ _ _ _ _ ⟨#[111, 112, 101, 110]⟩ und_box und_str hM (some (1, .agg #[.func (.func 103) #[] #[], .func (.func 104) #[] #[]])) (by kernel_rfl) funZ (zero_box _)
    have hsn := fun (p : Addr) (m : Mode) (W : World) => run_store Tryz.prog W p .nilFunc m rfl
    unfold lookV funZ at hlk
    simp only at hlk
    clear hM
    have hgx1 := grow_alloc hgM (.cells #[.func (.func 103) #[] #[], .func (.func 104) #[] #[]] 159)
    go_wp2_with fail
    (with_reducible refine (A2 _ hgx1).mono ?_)
    rintro e x2 ⟨v, rfl, hrx, hg2⟩
    obtain ⟨g, cp, rfl, _, _, hcp2, hcm, hcell⟩ := srow_cells hrx (by simp)
    have c0 : x2.cell? ⟨g, 0, none⟩ = some (.string ⟨a.toArray⟩) := hcell 0 (by simp)
    have c1 : x2.cell? ⟨g, 1, none⟩ = some (.string ⟨b.toArray⟩) := hcell 1 (by simp)
    have c2 : x2.cell? ⟨g, 2, none⟩ = some (.string ⟨c.toArray⟩) := hcell 2 (by simp)
    have c3 : x2.cell? ⟨g, 3, none⟩ = some (.string ⟨d.toArray⟩) := hcell 3 (by simp)
    have hg0 := grow_trans hgx1 hg2
    clear hcell hrx A1 A2 hgx1 hlk hsn hgM
    have cF := hg2.cell (a := ⟨x1.heap.size, 1, none⟩) (v := .func (.func 104) #[] #[]) (by rw [obj_cell (obj_new x1 _)]; rfl) (by simp)
    generalize x1.heap.size = F at *
    clear hg2
    go_wp2_with fail
    refine wp_drawn_tail (by kernel_rfl) ?_
    refine drawn_tail 19 [47, 48, 49, 50, 51, 52, 53, 54, 55, 56, 57, 58, 59, 60, 61, 62, 63, 64, 65] [(PEq (.int .i64 2)), (PEq (.int .i64 1)), (PEq (.pointer (some ⟨F, 1, none⟩))), (PEq (.func (.func 104) #[] #[])), (PEq (.slice (some ⟨g, 0, none⟩) 4 cp)), (PEq (.pointer (some ⟨g, 0, none⟩))), (PEq (.string ⟨a.toArray⟩)), (PEq (.slice (some ⟨g, 0, none⟩) 4 cp)), (PEq (.pointer (some ⟨g, 1, none⟩))), (PEq (.string ⟨b.toArray⟩)), (PEq (.slice (some ⟨g, 0, none⟩) 4 cp)), (PEq (.pointer (some ⟨g, 2, none⟩))), (PEq (.string ⟨c.toArray⟩)), (PEq (.slice (some ⟨g, 0, none⟩) 4 cp)), (PEq (.pointer (some ⟨g, 3, none⟩))), (PEq (.string ⟨d.toArray⟩)), (PEq (.tuple #[.string ⟨s.toArray⟩, .int .i64 (q : Int)])), (PEq (.string ⟨s.toArray⟩)), (PEq (.int .i64 (q : Int)))] (by kernel_rfl) (by kernel_rfl) (by kernel_rfl) (by kernel_rfl) (by decide) (by decide) (by rfl) ?_ ?_ ?_
    · exact ⟨mono_eq _, mono_eq _, mono_eq _, mono_eq _, mono_eq _, mono_eq _, mono_eq _, mono_eq _, mono_eq _, mono_eq _, mono_eq _, mono_eq _, mono_eq _, mono_eq _, mono_eq _, mono_eq _, mono_eq _, mono_eq _, mono_eq _, True.intro⟩
    · intro vs x hl hg
      obtain ⟨v0, v1, v2, v3, v4, v5, v6, v7, v8, v9, v10, v11, v12, v13, v14, v15, v16, v17, v18, rfl⟩ := lenD19 hl
      simp only [layAll, Act.put, List.setIfInBounds_toArray, List.set_cons_succ, List.set_cons_zero]
      have q0 := hg.cell c0 (by simp)
      have q1 := hg.cell c1 (by simp)
      have q2 := hg.cell c2 (by simp)
      have q3 := hg.cell c3 (by simp)
      have q4 := hg.cell cF (by simp)
      clear c0 c1 c2 c3 cF hg0
      refine stepsL_cons (fun K hw hr hK => ?_) <| stepsL_cons (fun K hw hr hK => ?_) <| stepsL_cons (fun K hw hr hK => ?_) <| stepsL_cons (fun K hw hr hK => ?_) <| stepsL_cons (fun K hw hr hK => ?_) <| stepsL_cons (fun K hw hr hK => ?_) <| stepsL_cons (fun K hw hr hK => ?_) <| stepsL_cons (fun K hw hr hK => ?_) <| stepsL_cons (fun K hw hr hK => ?_) <| stepsL_cons (fun K hw hr hK => ?_) <| stepsL_cons (fun K hw hr hK => ?_) <| stepsL_cons (fun K hw hr hK => ?_) <| stepsL_cons (fun K hw hr hK => ?_) <| stepsL_cons (fun K hw hr hK => ?_) <| stepsL_cons (fun K hw hr hK => ?_) <| stepsL_cons (fun K hw hr hK => ?_) <| stepsL_cons (fun K hw hr hK => ?_) <| stepsL_cons (fun K hw hr hK => ?_) <| stepsL_cons (fun K hw hr hK => ?_) <| stepsL_nil
      · -- 0: move
        unfold Oper.wp
        go_simp
        exact hK _ _ rfl (grow_refl _ _)
      · -- 1: binOp
        have f0 : v0 = _ := hw 0 (by kernel_rfl)
        subst f0
        unfold Oper.wp
        go_simp
        exact hK _ _ rfl (grow_refl _ _)
      · -- 2: indexAddr
        have f1 : v1 = _ := hw 1 (by kernel_rfl)
        subst f1
        unfold Oper.wp
        go_simp
        exact hK _ _ rfl (grow_refl _ _)
      · -- 3: load
        have f2 : v2 = _ := hw 2 (by kernel_rfl)
        subst f2
        unfold Oper.wp
        go_simp
        exact hK _ _ rfl (grow_refl _ _)
      · -- 4: move
        unfold Oper.wp
        go_simp
        exact hK _ _ rfl (grow_refl _ _)
      · -- 5: indexAddr
        have f4 : v4 = _ := hw 4 (by kernel_rfl)
        subst f4
        unfold Oper.wp
        go_simp
        exact hK _ _ rfl (grow_refl _ _)
      · -- 6: load
        have f5 : v5 = _ := hw 5 (by kernel_rfl)
        subst f5
        unfold Oper.wp
        go_simp
        exact hK _ _ rfl (grow_refl _ _)
      · -- 7: move
        unfold Oper.wp
        go_simp
        exact hK _ _ rfl (grow_refl _ _)
      · -- 8: indexAddr
        have f7 : v7 = _ := hw 7 (by kernel_rfl)
        subst f7
        unfold Oper.wp
        go_simp
        exact hK _ _ rfl (grow_refl _ _)
      · -- 9: load
        have f8 : v8 = _ := hw 8 (by kernel_rfl)
        subst f8
        unfold Oper.wp
        go_simp
        exact hK _ _ rfl (grow_refl _ _)
      · -- 10: move
        unfold Oper.wp
        go_simp
        exact hK _ _ rfl (grow_refl _ _)
      · -- 11: indexAddr
        have f10 : v10 = _ := hw 10 (by kernel_rfl)
        subst f10
        unfold Oper.wp
        go_simp
        exact hK _ _ rfl (grow_refl _ _)
      · -- 12: load
        have f11 : v11 = _ := hw 11 (by kernel_rfl)
        subst f11
        unfold Oper.wp
        go_simp
        exact hK _ _ rfl (grow_refl _ _)
      · -- 13: move
        unfold Oper.wp
        go_simp
        exact hK _ _ rfl (grow_refl _ _)
      · -- 14: indexAddr
        have f13 : v13 = _ := hw 13 (by kernel_rfl)
        subst f13
        unfold Oper.wp
        go_simp
        exact hK _ _ rfl (grow_refl _ _)
      · -- 15: load
        have f14 : v14 = _ := hw 14 (by kernel_rfl)
        subst f14
        unfold Oper.wp
        go_simp
        exact hK _ _ rfl (grow_refl _ _)
      · -- 16: call
        have f3 : v3 = _ := hw 3 (by kernel_rfl)
        subst f3
        have f6 : v6 = _ := hw 6 (by kernel_rfl)
        subst f6
        have f9 : v9 = _ := hw 9 (by kernel_rfl)
        subst f9
        have f12 : v12 = _ := hw 12 (by kernel_rfl)
        subst f12
        have f15 : v15 = _ := hw 15 (by kernel_rfl)
        subst f15
        unfold Oper.wp
        go_simp
        (with_reducible refine (A _).mono ?_)
        rintro e y ⟨rfl, hg2⟩
        exact hK _ _ rfl hg2
      · -- 17: extract
        have f16 : v16 = _ := hw 16 (by kernel_rfl)
        subst f16
        unfold Oper.wp
        go_simp
        exact hK _ _ rfl (grow_refl _ _)
      · -- 18: extract
        have f16 : v16 = _ := hw 16 (by kernel_rfl)
        subst f16
        unfold Oper.wp
        go_simp
        exact hK _ _ rfl (grow_refl _ _)
    · intro vs x hl hg hp
      obtain ⟨v0, v1, v2, v3, v4, v5, v6, v7, v8, v9, v10, v11, v12, v13, v14, v15, v16, v17, v18, rfl⟩ := lenD19 hl
      have f0 : v0 = _ := hp 0 _ rfl
      have f1 : v1 = _ := hp 1 _ rfl
      have f2 : v2 = _ := hp 2 _ rfl
      have f3 : v3 = _ := hp 3 _ rfl
      have f4 : v4 = _ := hp 4 _ rfl
      have f5 : v5 = _ := hp 5 _ rfl
      have f6 : v6 = _ := hp 6 _ rfl
      have f7 : v7 = _ := hp 7 _ rfl
      have f8 : v8 = _ := hp 8 _ rfl
      have f9 : v9 = _ := hp 9 _ rfl
      have f10 : v10 = _ := hp 10 _ rfl
      have f11 : v11 = _ := hp 11 _ rfl
      have f12 : v12 = _ := hp 12 _ rfl
      have f13 : v13 = _ := hp 13 _ rfl
      have f14 : v14 = _ := hp 14 _ rfl
      have f15 : v15 = _ := hp 15 _ rfl
      have f16 : v16 = _ := hp 16 _ rfl
      have f17 : v17 = _ := hp 17 _ rfl
      have f18 : v18 = _ := hp 18 _ rfl
      subst f0
      subst f1
      subst f2
      subst f3
      subst f4
      subst f5
      subst f6
      subst f7
      subst f8
      subst f9
      subst f10
      subst f11
      subst f12
      subst f13
      subst f14
      subst f15
      subst f16
      subst f17
      subst f18
      simp only [layAll, Act.put, List.setIfInBounds_toArray, List.set_cons_succ, List.set_cons_zero]
      simp only [List.drop_succ_cons, List.drop_zero]
      clear hp hl
      have hgx := grow_trans hg0 hg
      clear hg hg0 A c0 c1 c2 c3 cF
      go_wp2_with fail
      (with_reducible refine (D _).mono ?_)
      intro e y hy
      cases r with
      | some t =>
        obtain ⟨rfl, hg2⟩ := hy
        unfold S
        go_wp2_with fail
        go_ret
        exact ⟨rfl, grow_trans hgx hg2⟩
      | none =>
        obtain ⟨rfl, hg2⟩ := hy
        exact ⟨rfl, rfl, grow_trans hgx hg2⟩
  · refine ⟨none, m, h1, h2, fun t e => (nomatch e), fun w bk o cap hrow hc1 hc2 => ?_⟩
    rcases Nat.lt_or_ge 1 cap with hcap | hcap
    · have hcap2 : ¬ cap = 1 := by rw [List.length_cons] at hc1; omega
      have hcp : ss.length ≤ cap - 1 := by rw [List.length_cons] at hc1; omega
      have hcq : cap - 1 ≤ maxLen := by omega
      have A1 := hs w bk o cap hrow hc1 hc2
      have A2 : ∀ x : World, w.grownBy x none → Calls Tryz.prog 47 #[.slice (some ⟨bk, o + 1, none⟩) ss.length (cap - 1), .int .i64 4] x (Thrown m x) := fun x hg => C x bk (o + 1) (cap - 1) (hrow.tail.kept hg) hcp hcq
      unfold SPost at A1
      unfold Thrown at A2
      rw [List.length_cons] at *
      clear hs hrow C hf hb
      unfold TPost Thrown S at *
      go_enter Tryz.func59, Tryz.ntmps59
      go_wp2_with fail
      (with_reducible refine A1.mono ?_)
      rintro e x0 ⟨rfl, rfl⟩
      go_upto_region 2 with (fail)
      refine wp_region_lit ?_
      refine wpList_mkmap rfl _ rfl ?_
      refine Go.Great.wpList_readTo rfl _ rfl (.agg #[.func (.func 101) #[] #[], .func (.func 102) #[] #[]]) (by simp [execOp, Act.eval, Act.put, go_sem]) ?_
      refine wpList_put rfl _ _ _ _ _ _ rfl w.heap.size #[] 0 ⟨#[115, 101, 97, 108]⟩ (.agg #[.func (.func 101) #[] #[], .func (.func 102) #[] #[]]) rfl rfl rfl und_box und_str (World.alloc_heap_new _ _) rfl ?_
      refine Go.Great.wpList_readTo rfl _ rfl (.agg #[.func (.func 103) #[] #[], .func (.func 104) #[] #[]]) (by simp [execOp, Act.eval, Act.put, go_sem]) ?_
      refine wpList_put rfl _ _ _ _ _ _ rfl w.heap.size #[{ key := .string ⟨#[115, 101, 97, 108]⟩, val := .agg #[.func (.func 101) #[] #[], .func (.func 102) #[] #[]], born := 0 }] 1 ⟨#[111, 112, 101, 110]⟩ (.agg #[.func (.func 103) #[] #[], .func (.func 104) #[] #[]]) rfl rfl rfl und_box und_str (World.putObj_heap_same (alloc_lt _ _)) (by kernel_rfl) ?_
      refine wpList_world w w.heap.size ?_ (two_heap _ _ _ _) (two_grown _ _ _ _)
      intro x1 hM hgM
      simp only [Act.put, List.setIfInBounds_toArray, List.set_cons_succ, List.set_cons_zero, List.push_toArray, List.cons_append, List.nil_append] at hM ⊢
      have hlk := run_look _ _ _ _ _ _ ⟨#[111, 112, 101, 110]⟩ und_box und_str hM (some (1, .agg #[.func (.func 103) #[] #[], .func (.func 104) #[] #[]])) (by kernel_rfl) funZ (zero_box _)
      have hsn := fun (p : Addr) (m : Mode) (W : World) => run_store Tryz.prog W p .nilFunc m rfl
      unfold lookV funZ at hlk
      simp only at hlk
      clear hM
      have hgx1 := grow_alloc hgM (.cells #[.func (.func 103) #[] #[], .func (.func 104) #[] #[]] 159)
      go_wp2_with fail
      (with_reducible refine (A2 _ hgx1).mono ?_)
      rintro e x2 ⟨rfl, hg2⟩
      exact ⟨rfl, rfl, grow_trans hgx1 hg2⟩
    · obtain rfl : ss = [] := List.eq_nil_of_length_eq_zero (by rw [List.length_cons] at hc1; omega)
      obtain rfl : cap = 1 := by simp at hc1; omega
      have A1 := hs w bk o 1 hrow hc1 hc2
      have A2 : ∀ x : World, w.grownBy x none → Calls Tryz.prog 47 #[.slice (some ⟨bk, o, none⟩) 0 0, .int .i64 4] x (Thrown m x) := fun x hg => C x bk o 0 (fun i hi => absurd hi (by simp)) (by simp) (by simp)
      unfold SPost at A1
      unfold Thrown at A2
      simp only [List.length_cons, List.length_nil, Nat.zero_add] at *
      clear hs hrow C hf hb
      unfold TPost Thrown S at *
      go_enter Tryz.func59, Tryz.ntmps59
      go_wp2_with fail
      (with_reducible refine A1.mono ?_)
      rintro e x0 ⟨rfl, rfl⟩
      go_upto_region 2 with (fail)
      refine wp_region_lit ?_
      refine wpList_mkmap rfl _ rfl ?_
      refine Go.Great.wpList_readTo rfl _ rfl (.agg #[.func (.func 101) #[] #[], .func (.func 102) #[] #[]]) (by simp [execOp, Act.eval, Act.put, go_sem]) ?_
      refine wpList_put rfl _ _ _ _ _ _ rfl w.heap.size #[] 0 ⟨#[115, 101, 97, 108]⟩ (.agg #[.func (.func 101) #[] #[], .func (.func 102) #[] #[]]) rfl rfl rfl und_box und_str (World.alloc_heap_new _ _) rfl ?_
      refine Go.Great.wpList_readTo rfl _ rfl (.agg #[.func (.func 103) #[] #[], .func (.func 104) #[] #[]]) (by simp [execOp, Act.eval, Act.put, go_sem]) ?_
      refine wpList_put rfl _ _ _ _ _ _ rfl w.heap.size #[{ key := .string ⟨#[115, 101, 97, 108]⟩, val := .agg #[.func (.func 101) #[] #[], .func (.func 102) #[] #[]], born := 0 }] 1 ⟨#[111, 112, 101, 110]⟩ (.agg #[.func (.func 103) #[] #[], .func (.func 104) #[] #[]]) rfl rfl rfl und_box und_str (World.putObj_heap_same (alloc_lt _ _)) (by kernel_rfl) ?_
      refine wpList_world w w.heap.size ?_ (two_heap _ _ _ _) (two_grown _ _ _ _)
      intro x1 hM hgM
      simp only [Act.put, List.setIfInBounds_toArray, List.set_cons_succ, List.set_cons_zero, List.push_toArray, List.cons_append, List.nil_append] at hM ⊢
      have hlk := run_look _ _ _ _ _ _ ⟨#[111, 112, 101, 110]⟩ und_box und_str hM (some (1, .agg #[.func (.func 103) #[] #[], .func (.func 104) #[] #[]])) (by kernel_rfl) funZ (zero_box _)
      have hsn := fun (p : Addr) (m : Mode) (W : World) => run_store Tryz.prog W p .nilFunc m rfl
      unfold lookV funZ at hlk
      simp only at hlk
      clear hM
      have hgx1 := grow_alloc hgM (.cells #[.func (.func 103) #[] #[], .func (.func 104) #[] #[]] 159)
      go_wp2_with fail
      (with_reducible refine (A2 _ hgx1).mono ?_)
      rintro e x2 ⟨rfl, hg2⟩
      exact ⟨rfl, rfl, grow_trans hgx1 hg2⟩

end Go.Proofs.YtmomfbkpniblgaaGreatDoor
