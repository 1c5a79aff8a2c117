/- Shake: Finish. (Written by wip/gen/shake.py.) -/
import Derived.Test.YtcmncdaojmkfgaaGreatDoorShakeAnswer
namespace Go.Proofs.YtcmncdaojmkfgaaGreatDoor
open Go.RowKit
set_option linter.unusedVariables false

theorem lenD14 {vs : List Value} (h : vs.length = 14) : ∃ v0 v1 v2 v3 v4 v5 v6 v7 v8 v9 v10 v11 v12 v13, vs = [v0, v1, v2, v3, v4, v5, v6, v7, v8, v9, v10, v11, v12, v13] := by
  match vs, h with
  | [v0, v1, v2, v3, v4, v5, v6, v7, v8, v9, v10, v11, v12, v13], _ => exact ⟨v0, v1, v2, v3, v4, v5, v6, v7, v8, v9, v10, v11, v12, v13, rfl⟩
def FinishedTo (w : World) (t : Met) (e : Ending) (w' : World) : Prop :=
  e = .returned (.tuple #[.agg #[S t.k1, S t.k2], .int .i64 (t.worst : Int), .int .u32 (t.id : Int), .int .i64 0]) ∧ w.grownBy w' none

set_option maxRecDepth 20000 in
set_option maxHeartbeats 8000000 in
theorem code_sfinish (w : World) (t : Met) (o : t.ok) (hb : Nat) (hH : Blk w hb 93 (begunC t)) :
    Calls Tryz.prog 16 #[.pointer (some ⟨hb, 0, none⟩), S t.second] w (FinishedTo w t) := by
  have lPO : t.PO.length = 32 := multL_length _ _
  have lPS : t.PS.length = 32 := multL_length _ _
  have lPQ : t.PQ.length = 32 := multL_length _ _
  have AF : ∀ W : World, Calls Tryz.prog 20 #[S t.second, .int .i64 59, .int .u8 2] W (fun e w' => e = .returned (.int .i64 0) ∧ W = w') := fun W => code_sform W t.second 2 t.s 59 o.s _ t.second_head o.second_length (by omega)
  have AI := fun W : World => code_issuite W t.worst o.worst
  have C1 : ∀ (w0 W : World) (m b : Nat), Mx w0 W m b t.s t.x5 → Calls Tryz.prog 22 #[.pointer (some ⟨m, 0, none⟩), S t.PQ] W (MxTo w0 m b t.s (.tuple #[]) t.y1) := fun w0 W m b h => code_sboth w0 W m b t.s o.s t.x5 o.o5.1 t.PQ (by omega) h
  have C2 : ∀ (w0 W : World) (m b : Nat), Mx w0 W m b t.s t.y1 → Calls Tryz.prog 23 #[.pointer (some ⟨m, 0, none⟩), S t.once, S t.PQ] W (MxTo w0 m b t.s (.tuple #[]) t.y2) := fun w0 W m b h => by
    have := code_ssecret w0 W m b t.s o.s t.y1 o.p1 t.once t.PQ o.once lPQ (by rw [o.same3]; exact o.nz3) h
    rwa [o.same3] at this
  have C3 : ∀ (w0 W : World) (m b : Nat), Mx w0 W m b t.s t.y2 → Calls Tryz.prog 23 #[.pointer (some ⟨m, 0, none⟩), S t.own, S t.PQ] W (MxTo w0 m b t.s (.tuple #[]) t.y3) := fun w0 W m b h => by
    have := code_ssecret w0 W m b t.s o.s t.y2 o.p2 t.own t.PQ o.own lPQ (by rw [o.same4]; exact o.nz4) h
    rwa [o.same4] at this
  have C4 : ∀ (w0 W : World) (m b : Nat), Mx w0 W m b t.s t.y3 → Calls Tryz.prog 40 #[.pointer (some ⟨b, 0, none⟩), S t.psk] W (MxTo w0 m b t.s (.tuple #[]) t.y4) := fun w0 W m b h => (n_mixboth W b t.s o.s t.y3 o.p3 t.psk (by rw [o.psk]; omega) h.st).mono fun e w' ⟨h1, h2, h3⟩ => ⟨h1, h.step h2 h3⟩
  have C5 : ∀ (w0 W : World) (m b : Nat), Mx w0 W m b t.s t.y4 → Calls Tryz.prog 24 #[.pointer (some ⟨m, 0, none⟩), S t.c] W (MxTo w0 m b t.s (S [UInt8.ofNat t.worst]) t.y5) := fun w0 W m b h => code_sopen w0 W m b t.s o.s t.y4 o.p4.1 o.p4.2 [UInt8.ofNat t.worst] (by simp) h
  have C6 : ∀ (w0 W : World) (m b : Nat), Mx w0 W m b t.s t.y5 → Calls Tryz.prog 41 #[.pointer (some ⟨b, 0, none⟩)] W (Grown (.tuple #[S t.k1, S t.k2]) W) := fun w0 W m b h => n_split W b t.s o.s t.y5 o.p5.1 h.st
  have AL1 : ∀ W : World, Calls Tryz.prog 27 #[S (leB t.index 4)] W fun e w' => e = .returned (.int .u64 (t.index : Int)) ∧ W = w' := fun W => by
    have := wire_little W (leB t.index 4) (by rw [leB_length]; omega)
    rwa [List.take_of_length_le (by rw [leB_length]; omega), num_back o.index] at this
  have AL2 : ∀ W : World, Calls Tryz.prog 27 #[S (leB t.id 4)] W fun e w' => e = .returned (.int .u64 (t.id : Int)) ∧ W = w' := fun W => by
    have := wire_little W (leB t.id 4) (by rw [leB_length]; omega)
    rwa [List.take_of_length_le (by rw [leB_length]; omega), num_back o.id] at this
  have mw : (t.worst : Int) % 256 = (t.worst : Int) := by rcases o.worst with e | e <;> omega
  have ms : (t.s : Int) % 256 = (t.s : Int) := by rcases o.s with e | e <;> omega
  have ww : IntKind.i64.wrap (t.worst : Int) = (t.worst : Int) := IntWalk.i64_in _ (by rcases o.worst with e | e <;> omega)
  have wq : wrap64 (t.worst : Int) = (t.worst : Int) := IntWalk.wrap64_in _ (by rcases o.worst with e | e <;> omega)
  have ws : IntKind.i64.wrap (t.s : Int) = (t.s : Int) := IntWalk.i64_in _ (by rcases o.s with e | e <;> omega)
  have ui : IntKind.u32.wrap (t.index : Int) = (t.index : Int) := IntWalk.u32_in _ (by have := o.index; omega)
  have uj : IntKind.u32.wrap (t.id : Int) = (t.id : Int) := IntWalk.u32_in _ (by have := o.id; omega)
  have cw : ((UInt8.ofNat t.worst).toNat : Int) = (t.worst : Int) := by rcases o.worst with e | e <;> rw [e] <;> rfl
  have cs : ((UInt8.ofNat t.s).toNat : Int) = (t.s : Int) := by rcases o.s with e | e <;> rw [e] <;> rfl
  have hl := o.second_length
  have h2 := o.second2
  have h6 := o.second6
  have h10 := o.second10
  have h42 := o.second42
  have hh := t.second_head
  have n1 : t.second[1]? = some (UInt8.ofNat t.s) := by rw [hh]; rfl
  have i1 : (1 : Int) < (t.second.length : Int) := by omega
  have i2 : (10 : Int) ≤ (t.second.length : Int) := by omega
  have i3 : (42 : Int) ≤ (t.second.length : Int) := by omega
  have i4 : (6 : Int) ≤ (t.second.length : Int) := by omega
  have r2 := rule_ext
  have hhc : begunC t = nstC t.s t.x5.h t.x5.c t.x5.k t.x5.n ++ [.int .i64 (t.s : Int), S t.own, S t.PP, S t.psk, S t.once, .int .u32 (t.index : Int)] := rfl
  rw [hhc] at hH
  unfold FinishedTo
  unfold MxTo at C1 C2 C3 C4 C5
  clear hh hhc
  generalize t.second = second at *
  generalize t.x5 = x5 at *
  generalize t.y1 = y1 at *
  generalize t.y2 = y2 at *
  generalize t.y3 = y3 at *
  generalize t.y4 = y4 at *
  generalize t.y5 = y5 at *
  generalize t.k1 = k1 at *
  generalize t.k2 = k2 at *
  generalize t.PP = PP at *
  generalize t.PQ = PQ at *
  generalize t.c = vc at *
  generalize leB t.index 4 = ix at *
  generalize leB t.id 4 = ic at *
  generalize t.psk = psk at *
  generalize t.own = own at *
  generalize t.once = once at *
  generalize t.s = s at *
  generalize t.worst = worst at *
  generalize t.index = index at *
  generalize t.id = id at *
  have e1 : (ByteArray.mk second.toArray)[1]'(by simp [ByteArray.size]; omega) = UInt8.ofNat s := by
    have : second[1]'(by omega) = UInt8.ofNat s := by rw [List.getElem?_eq_getElem (by omega)] at n1; exact Option.some.inj n1
    exact this
  have x0 : (ByteArray.mk #[UInt8.ofNat worst])[0]'(Nat.zero_lt_one) = UInt8.ofNat worst := rfl
  clear o n1
  unfold S nstC at hH
  obtain ⟨T, hT⟩ : ∃ T, suV s = .iface T (.agg #[]) := by unfold suV; split <;> exact ⟨_, rfl⟩
  rw [hT] at hH
  unfold S at *
  have hlt : hb < w.heap.size := Blk.lt hH
  have HK0 : Blk (w.alloc (.cells #[.string ⟨#[]⟩, .string ⟨#[]⟩] 26)) w.heap.size 26 [.string ⟨#[]⟩, .string ⟨#[]⟩] := Blk.new w _ _
  have HG0 := Lib.hid (World.grownBy_alloc w (.cells #[.string ⟨#[]⟩, .string ⟨#[]⟩] 26) none)
  have hh0 := Blk.kept hH HG0.out (by simp)
  obtain ⟨z1, hz1⟩ : ∃ z1, z1 = w.alloc (.cells #[.string ⟨#[]⟩, .string ⟨#[]⟩] 26) := ⟨_, rfl⟩
  rw [← hz1] at HK0 HG0 hh0
  have HK1 := Lib.hid HK0
  have HH1 := Lib.hid hh0
  have d0 := Blk.cell hh0 0
  have d1 := Blk.cell hh0 1
  have d2 := Blk.cell hh0 2
  have d3 := Blk.cell hh0 3
  have d4 := Blk.cell hh0 4
  have d5 := Blk.cell hh0 5
  have dA := Blk.cell hh0 10
  have HZ1 := Lib.hid hz1
  clear hz1 HK0 hh0 hH
  go_enter Tryz.func16, Tryz.ntmps16
  go_upto_region 1 with (fail)
  rw [← HZ1.out]
  go_wp2_with fail
  (with_reducible refine (AF _).mono ?_)
  rintro e z ⟨rfl, rfl⟩
  clear AF HZ1
  go_upto_region 2 with (fail)
  apply wp_one
  case h =>
    go_region_held3 (fun W => W.cell? ⟨hb, 5, none⟩ = some (.int .i64 (s : Int)) ∧ W.cell? ⟨hb, 10, none⟩ = some (.int .u32 (index : Int))) (exact ⟨d5, dA⟩) (first
      | (go_at_call 27; (with_reducible refine (AL1 _).mono ?_); rintro e z ⟨rfl, rfl⟩))
    all_goals exact ⟨rfl, rfl, rfl⟩
  case k =>
    obtain ⟨z2, hz2⟩ : ∃ z2, z2 = z1.drew := ⟨_, rfl⟩
    rw [← hz2]
    have g2 : z1.grownBy z2 none := by rw [hz2]; exact grow_drew (grow_refl z1 none)
    have HG2 := Lib.hid (grow_trans HG0.out g2)
    have HK2 := Lib.hid (HK1.out.kept g2 (by simp))
    have hh2 := HH1.out.kept g2 (by simp)
    have HH2 := Lib.hid hh2
    clear hz2 d0 d1 d2 d3 d4 d5 dA g2 AL1
    have d0 := Blk.cell hh2 0
    have d1 := Blk.cell hh2 1
    have d2 := Blk.cell hh2 2
    have d3 := Blk.cell hh2 3
    have d4 := Blk.cell hh2 4
    clear hh2 HH1 HK1
    have hm0 : Mx z2 ((z2.alloc (.cells #[.iface T (.agg #[]), .string ⟨x5.h.toArray⟩, .string ⟨x5.c.toArray⟩, .string ⟨x5.k.toArray⟩, .int .u64 (x5.n : Int)] 78)).alloc (.cells #[.pointer (some ⟨z2.heap.size, 0, none⟩), .int .i64 0] 69)) (z2.heap.size + 1) z2.heap.size s x5 := by
      have e2 : (z2.alloc (.cells #[.iface T (.agg #[]), .string ⟨x5.h.toArray⟩, .string ⟨x5.c.toArray⟩, .string ⟨x5.k.toArray⟩, .int .u64 (x5.n : Int)] 78)).heap.size = z2.heap.size + 1 := by simp
      refine ⟨?_, by unfold NAt NSt nstC; rw [hT]; exact obj_alloc (obj_new z2 _), by omega, grow_alloc (World.grownBy_alloc z2 _ none) _, by omega, Nat.le_refl _⟩
      have := obj_new (z2.alloc (.cells #[.iface T (.agg #[]), .string ⟨x5.h.toArray⟩, .string ⟨x5.c.toArray⟩, .string ⟨x5.k.toArray⟩, .int .u64 (x5.n : Int)] 78)) (.cells #[.pointer (some ⟨z2.heap.size, 0, none⟩), .int .i64 0] 69)
      rw [e2] at this
      exact this
    have B1 := C1 _ _ _ _ hm0
    clear hm0 C1
    go_wp2_with fail
    (with_reducible refine B1.mono ?_)
    rintro e z3 ⟨rfl, h3⟩
    have B2 := C2 _ _ _ _ h3
    have d9 := Blk.cell (Blk.kept HH2.out h3.g (by simp)) 9
    clear h3 B1 C2 d0 d1 d2 d3 d4
    go_wp2_with fail
    (with_reducible refine B2.mono ?_)
    rintro e z4 ⟨rfl, h4⟩
    have B3 := C3 _ _ _ _ h4
    have d6 := Blk.cell (Blk.kept HH2.out h4.g (by simp)) 6
    clear h4 B2 C3 d9
    go_wp2_with fail
    (with_reducible refine B3.mono ?_)
    rintro e z5 ⟨rfl, h5⟩
    have B4 := C4 _ _ _ _ (h5.new (grow_drew (grow_refl z5 none)))
    obtain ⟨e0, e1', _⟩ := h5.cells
    have d8 := Blk.cell (Blk.kept HH2.out h5.g (by simp)) 8
    clear h5 B3 C4 d6
    go_upto_region 12 with (fail)
    go_region_held3 (fun W => W.cell? ⟨z2.heap.size + 1, 0, none⟩ = some (.pointer (some ⟨z2.heap.size, 0, none⟩)) ∧ W.cell? ⟨hb, 8, none⟩ = some (.string ⟨psk.toArray⟩)) (first | exact ⟨f0, f8⟩ | exact ⟨e0, d8⟩) (first
      | (go_at_call 40; (with_reducible refine B4.mono ?_); rintro e z6 ⟨rfl, h6⟩; have f0 := h6.cells.1; have f8 := Blk.cell (Blk.kept HH2.out h6.g (by simp)) 8))
    have B5 := C5 _ _ _ _ h6
    clear h6 B4 C5 e0 e1' d8 f0 f8
    go_wp2_with fail
    (with_reducible refine B5.mono ?_)
    rintro e z7 ⟨rfl, h7⟩
    obtain ⟨e0, e1', _⟩ := h7.cells
    have B6 := C6 _ _ _ _ h7
    have H7 := Lib.hid h7
    clear h7 B5 C6
    go_wp2_with fail
    (with_reducible refine (AI _).mono ?_)
    rintro e z ⟨rfl, rfl⟩
    go_wp2_with fail
    (with_reducible refine B6.mono ?_)
    rintro e z8 ⟨rfl, g8⟩
    have H8 := Lib.hid (H7.out.new g8)
    clear H7 g8 B6 e0 e1' AI
    have HK8 := Lib.hid (HK2.out.kept H8.out.g (by simp))
    have lt8 : w.heap.size < z8.heap.size := Blk.lt HK8.out
    go_upto_region 19 with (fail)
    refine drawn_region (some w.heap.size) 10 (fun x => Blk x w.heap.size 26 [.string ⟨#[]⟩, .string ⟨#[]⟩]) [111, 112, 113, 114, 115, 116, 117, 118, 119, 120, 100010, 5, 6, 7] [(PEq (.string ⟨k1.toArray⟩)), (PEq (.string ⟨k2.toArray⟩)), (PEq (.agg #[.string ⟨k1.toArray⟩, .string ⟨k2.toArray⟩])), (PEq (.string ⟨#[UInt8.ofNat worst]⟩)), (PEq (.int .u8 (worst : Int))), (PEq (.int .i64 (worst : Int))), (PEq (.string ⟨second.toArray⟩)), (PEq (.string ⟨ic.toArray⟩)), (PEq (.int .u64 (id : Int))), (PEq (.int .u32 (id : Int))), (PKept w.heap.size 26 [.string ⟨k1.toArray⟩, .string ⟨k2.toArray⟩]), (PEq (.int .i64 (worst : Int))), (PEq (.int .u32 (id : Int))), (PEq (.int .i64 0))] follows_mixedD (by kernel_rfl) (by kernel_rfl) (by decide) (by rfl) (HK8.out) (fun x y h g => Blk.kept h g (by simp)) ?_ ?_ ?_
    · exact ⟨mono_eq _, mono_eq _, mono_eq _, mono_eq _, mono_eq _, mono_eq _, mono_eq _, mono_eq _, mono_eq _, mono_eq _, mono_kept _ _ _, mono_eq _, mono_eq _, mono_eq _, True.intro⟩
    · intro vs x hl hg
      obtain ⟨v0, v1, v2, v3, v4, v5, v6, v7, v8, v9, v10, v11, v12, v13, rfl⟩ := lenD14 hl
      simp only [layAll, Act.put, List.setIfInBounds_toArray, List.set_cons_succ, List.set_cons_zero]
      refine stepsL_cons (fun K hw hr hK => ?_) <| stepsL_cons (fun K hw hr hK => ?_) <| stepsL_cons (fun K hw hr hK => ?_) <| stepsL_cons (fun K hw hr hK => ?_) <| stepsL_cons (fun K hw hr hK => ?_) <| stepsL_cons (fun K hw hr hK => ?_) <| stepsL_cons (fun K hw hr hK => ?_) <| stepsL_cons (fun K hw hr hK => ?_) <| stepsL_cons (fun K hw hr hK => ?_) <| stepsL_cons (fun K hw hr hK => ?_) <| stepsL_cons (fun K hw hr hK => ?_) <| stepsL_cons (fun K hw hr hK => ?_) <| stepsL_cons (fun K hw hr hK => ?_) <| stepsL_cons (fun K hw hr hK => ?_) <| stepsL_nil
      · -- 0: move
        unfold Oper.wp
        go_simp
        exact hK _ _ rfl (grow_refl _ _)
      · -- 1: move
        unfold Oper.wp
        go_simp
        exact hK _ _ rfl (grow_refl _ _)
      · -- 2: build
        have f0 : v0 = _ := hw 0 (by kernel_rfl)
        subst f0
        have f1 : v1 = _ := hw 1 (by kernel_rfl)
        subst f1
        unfold Oper.wp
        go_simp
        exact hK _ _ rfl (grow_refl _ _)
      · -- 3: move
        unfold Oper.wp
        go_simp
        exact hK _ _ rfl (grow_refl _ _)
      · -- 4: index
        have f3 : v3 = _ := hw 3 (by kernel_rfl)
        subst f3
        unfold Oper.wp
        go_simp
        exact hK _ _ rfl (grow_refl _ _)
      · -- 5: convert
        have f4 : v4 = _ := hw 4 (by kernel_rfl)
        subst f4
        unfold Oper.wp
        go_simp
        exact hK _ _ rfl (grow_refl _ _)
      · -- 6: move
        unfold Oper.wp
        go_simp
        exact hK _ _ rfl (grow_refl _ _)
      · -- 7: slice
        have f6 : v6 = _ := hw 6 (by kernel_rfl)
        subst f6
        unfold Oper.wp
        go_simp
        exact hK _ _ rfl (grow_refl _ _)
      · -- 8: call
        have f7 : v7 = _ := hw 7 (by kernel_rfl)
        subst f7
        unfold Oper.wp
        go_simp
        (with_reducible refine (AL2 _).mono ?_)
        rintro e z ⟨rfl, rfl⟩
        exact hK _ _ rfl (grow_refl _ _)
      · -- 9: convert
        have f8 : v8 = _ := hw 8 (by kernel_rfl)
        subst f8
        unfold Oper.wp
        go_simp
        exact hK _ _ rfl (grow_refl _ _)
      · -- 10: store
        have f2 : v2 = _ := hw 2 (by kernel_rfl)
        subst f2
        have hB := hr (Or.inl rfl)
        have z0 := Blk.cell hB 0
        have z1' := Blk.cell hB 1
        have q0 := Blk.frozen hB 0
        have q1 := Blk.frozen hB 1
        unfold Oper.wp
        go_simp
        exact hK undef _ ((hB.set 0 _).set 1 _) (by rw [if_pos rfl]; exact grow_setCell (grow_setCell (grow_refl _ _) 0 _) 1 _)
      · -- 11: assign
        have f5 : v5 = _ := hw 5 (by kernel_rfl)
        subst f5
        unfold Oper.wp
        go_simp
        exact hK _ _ rfl (grow_refl _ _)
      · -- 12: assign
        have f9 : v9 = _ := hw 9 (by kernel_rfl)
        subst f9
        unfold Oper.wp
        go_simp
        exact hK _ _ rfl (grow_refl _ _)
      · -- 13: assign
        unfold Oper.wp
        go_simp
        exact hK _ _ rfl (grow_refl _ _)
    · intro vs x hl hg hp
      obtain ⟨v0, v1, v2, v3, v4, v5, v6, v7, v8, v9, v10, v11, v12, v13, rfl⟩ := lenD14 hl
      have f0 : v0 = _ := hp 0 _ rfl
      have f1 : v1 = _ := hp 1 _ rfl
      have f2 : v2 = _ := hp 2 _ rfl
      have f3 : v3 = _ := hp 3 _ rfl
      have f4 : v4 = _ := hp 4 _ rfl
      have f5 : v5 = _ := hp 5 _ rfl
      have f6 : v6 = _ := hp 6 _ rfl
      have f7 : v7 = _ := hp 7 _ rfl
      have f8 : v8 = _ := hp 8 _ rfl
      have f9 : v9 = _ := hp 9 _ rfl
      have b10 := hp 10 _ rfl
      have f11 : v11 = _ := hp 11 _ rfl
      have f12 : v12 = _ := hp 12 _ rfl
      have f13 : v13 = _ := hp 13 _ rfl
      subst f0
      subst f1
      subst f2
      subst f3
      subst f4
      subst f5
      subst f6
      subst f7
      subst f8
      subst f9
      subst f11
      subst f12
      subst f13
      simp only [layAll, Act.put, List.setIfInBounds_toArray, List.set_cons_succ, List.set_cons_zero]
      clear hp hl
      have t0 := Blk.cell b10 0
      have t1 := Blk.cell b10 1
      go_wp2_with fail
      refine bodyPost_ret (v := .tuple #[.agg #[.string ⟨k1.toArray⟩, .string ⟨k2.toArray⟩], .int .i64 (worst : Int), .int .u32 (id : Int), .int .i64 0]) (by simp [results, Tryz.results16, go_sem, t0, t1]) rfl ?_
      exact ⟨rfl, grow_trans_new (grow_trans HG2.out H8.out.g) hg (Nat.le_refl _)⟩

end Go.Proofs.YtcmncdaojmkfgaaGreatDoor
