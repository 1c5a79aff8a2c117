/- Shake: Answer. (Written by wip/gen/shake.py.) -/
import Derived.Test.YtcmncdaojmkfgaaGreatDoorShakeHear
namespace Go.Proofs.YtcmncdaojmkfgaaGreatDoor
open Go.RowKit
set_option linter.unusedVariables false

theorem lenD26 {vs : List Value} (h : vs.length = 26) : ∃ v0 v1 v2 v3 v4 v5 v6 v7 v8 v9 v10 v11 v12 v13 v14 v15 v16 v17 v18 v19 v20 v21 v22 v23 v24 v25, vs = [v0, v1, v2, v3, v4, v5, v6, v7, v8, v9, v10, v11, v12, v13, v14, v15, v16, v17, v18, v19, v20, v21, v22, v23, v24, v25] := by
  match vs, h with
  | [v0, v1, v2, v3, v4, v5, v6, v7, v8, v9, v10, v11, v12, v13, v14, v15, v16, v17, v18, v19, v20, v21, v22, v23, v24, v25], _ => exact ⟨v0, v1, v2, v3, v4, v5, v6, v7, v8, v9, v10, v11, v12, v13, v14, v15, v16, v17, v18, v19, v20, v21, v22, v23, v24, v25, rfl⟩
def AnsweredTo (w : World) (t : Met) (e : Ending) (w' : World) : Prop :=
  e = .returned (.tuple #[S t.second, .agg #[S t.k2, S t.k1], .int .i64 0]) ∧ w.grownBy w' none

set_option maxRecDepth 20000 in
set_option maxHeartbeats 8000000 in
theorem code_sanswer (w : World) (t : Met) (o : t.ok) (hb : Nat) (hH : Blk w hb 80 (heardC t)) :
    Calls Tryz.prog 15 #[.pointer (some ⟨hb, 0, none⟩), S t.psk, S t.other, .int .i64 (t.worst : Int), .int .u32 (t.id : Int)] w (AnsweredTo w t) := by
  have lPO : t.PO.length = 32 := multL_length _ _
  have lPS : t.PS.length = 32 := multL_length _ _
  have lPQ : t.PQ.length = 32 := multL_length _ _
  have AK : ∀ W : World, Calls Tryz.prog 19 #[.slice (some ⟨W.heap.size, 0, none⟩) 2 2] (W.alloc (.cells #[S t.psk, S t.other] 9)) (fun e w' => e = .returned (.bool true) ∧ (W.alloc (.cells #[S t.psk, S t.other] 9)) = w') := fun W =>
    code_iskey _ W.heap.size 2 [t.psk, t.other] rfl (by omega) (fun i hi => by
      rw [obj_cell (obj_new W _)]
      have h4 : i = 0 ∨ i = 1 := by simp at hi; omega
      rcases h4 with rfl | rfl <;> rfl) (fun x hx => by
      simp only [List.mem_cons, List.not_mem_nil, or_false] at hx
      rcases hx with rfl | rfl
      · exact o.psk
      · exact o.other)
  have AI := fun W : World => code_issuite W t.worst o.worst
  have AP : ∀ W : World, Calls Tryz.prog 13 #[S t.other] W (Grown (.tuple #[S t.PQ, .int .i64 0]) W) := fun W => code_cpublic W t.other o.other
  have C1 : ∀ (w0 W : World) (m b : Nat), Mx w0 W m b t.s t.x5 → Calls Tryz.prog 22 #[.pointer (some ⟨m, 0, none⟩), S t.PQ] W (MxTo w0 m b t.s (.tuple #[]) t.y1) := fun w0 W m b h => code_sboth w0 W m b t.s o.s t.x5 o.o5.1 t.PQ (by omega) h
  have C2 : ∀ (w0 W : World) (m b : Nat), Mx w0 W m b t.s t.y1 → Calls Tryz.prog 23 #[.pointer (some ⟨m, 0, none⟩), S t.other, S t.PO] W (MxTo w0 m b t.s (.tuple #[]) t.y2) := fun w0 W m b h => code_ssecret w0 W m b t.s o.s t.y1 o.p1 t.other t.PO o.other lPO o.nz3 h
  have C3 : ∀ (w0 W : World) (m b : Nat), Mx w0 W m b t.s t.y2 → Calls Tryz.prog 23 #[.pointer (some ⟨m, 0, none⟩), S t.other, S t.PS] W (MxTo w0 m b t.s (.tuple #[]) t.y3) := fun w0 W m b h => code_ssecret w0 W m b t.s o.s t.y2 o.p2 t.other t.PS o.other lPS o.nz4 h
  have C4 : ∀ (w0 W : World) (m b : Nat), Mx w0 W m b t.s t.y3 → Calls Tryz.prog 40 #[.pointer (some ⟨b, 0, none⟩), S t.psk] W (MxTo w0 m b t.s (.tuple #[]) t.y4) := fun w0 W m b h => (n_mixboth W b t.s o.s t.y3 o.p3 t.psk (by rw [o.psk]; omega) h.st).mono fun e w' ⟨h1, h2, h3⟩ => ⟨h1, h.step h2 h3⟩
  have C5 : ∀ (w0 W : World) (m b : Nat), Mx w0 W m b t.s t.y4 → Calls Tryz.prog 38 #[.pointer (some ⟨m, 0, none⟩), S [UInt8.ofNat t.worst]] W (MxTo w0 m b t.s (S t.c) t.y5) := fun w0 W m b h => code_sseal w0 W m b t.s o.s t.y4 o.p4.1 o.p4.2 [UInt8.ofNat t.worst] (by simp) h
  have C6 : ∀ (w0 W : World) (m b : Nat), Mx w0 W m b t.s t.y5 → Calls Tryz.prog 41 #[.pointer (some ⟨b, 0, none⟩)] W (Grown (.tuple #[S t.k1, S t.k2]) W) := fun w0 W m b h => n_split W b t.s o.s t.y5 o.p5.1 h.st
  have A9 : ∀ W : World, Calls Tryz.prog 39 #[.int .u32 (t.id : Int)] W (Grown (S (leB t.id 4)) W) := fun W => code_sindex W t.id o.id
  have A8 : ∀ W : World, Calls Tryz.prog 39 #[.int .u32 (t.index : Int)] W (Grown (S (leB t.index 4)) W) := fun W => code_sindex W t.index o.index
  have h12 := o.s
  have uw : IntKind.u8.wrap (t.worst : Int) = (t.worst : Int) := IntWalk.u8_in _ (by rcases o.worst with e | e <;> omega)
  have us : IntKind.u8.wrap (t.s : Int) = (t.s : Int) := IntWalk.u8_in _ (by rcases o.s with e | e <;> omega)
  have mw : (t.worst : Int) % 256 = (t.worst : Int) := by rcases o.worst with e | e <;> omega
  have ms : (t.s : Int) % 256 = (t.s : Int) := by rcases o.s with e | e <;> omega
  have cw : (UInt8.ofNat t.worst).toNat = t.worst := by rcases o.worst with e | e <;> rw [e] <;> rfl
  have CB := fun W : World => conv_byte W t.worst (UInt8.ofNat t.worst) cw
  have hsecond : t.second = 2 :: UInt8.ofNat t.s :: (leB t.id 4 ++ (leB t.index 4 ++ (t.PQ ++ t.c))) := by unfold Met.second; simp only [List.append_assoc, List.cons_append, List.nil_append]
  have l4 : (leB t.index 4).length = 4 := leB_length _ _
  have l5 : (leB t.id 4).length = 4 := leB_length _ _
  have lc := o.lc
  have hhc : heardC t = nstC t.s t.x5.h t.x5.c t.x5.k t.x5.n ++ [.int .i64 (t.s : Int), .int .u32 (t.index : Int), S t.PO, S t.PS] := rfl
  have r1 := rule_app
  rw [hhc] at hH
  unfold AnsweredTo
  unfold MxTo at C1 C2 C3 C4 C5
  rw [hsecond]
  generalize t.x5 = x5 at *
  generalize t.y1 = y1 at *
  generalize t.y2 = y2 at *
  generalize t.y3 = y3 at *
  generalize t.y4 = y4 at *
  generalize t.y5 = y5 at *
  generalize t.k1 = k1 at *
  generalize t.k2 = k2 at *
  generalize t.PO = PO at *
  generalize t.PS = PS at *
  generalize t.PQ = PQ at *
  generalize t.c = vc at *
  generalize leB t.index 4 = ix at *
  generalize leB t.id 4 = ic at *
  generalize t.psk = psk at *
  generalize t.other = other at *
  generalize t.s = s at *
  generalize t.worst = worst at *
  generalize t.index = index at *
  generalize t.id = id at *
  clear o hsecond hhc cw
  unfold S nstC at hH
  obtain ⟨T, hT⟩ : ∃ T, suV s = .iface T (.agg #[]) := by unfold suV; split <;> exact ⟨_, rfl⟩
  rw [hT] at hH
  unfold S at *
  have hlt : hb < w.heap.size := Blk.lt hH
  have HK0 : Blk (w.alloc (.cells #[.string ⟨#[]⟩, .string ⟨#[]⟩] 26)) w.heap.size 26 [.string ⟨#[]⟩, .string ⟨#[]⟩] := Blk.new w _ _
  have HG0 := Lib.hid (World.grownBy_alloc w (.cells #[.string ⟨#[]⟩, .string ⟨#[]⟩] 26) none)
  have HK0 := Lib.hid HK0
  have AK1 := AK (w.alloc (.cells #[.string ⟨#[]⟩, .string ⟨#[]⟩] 26))
  rw [World.size_alloc] at AK1
  have HH := Lib.hid hH
  clear hH AK
  go_enter Tryz.func15, Tryz.ntmps15
  go_wp2_with fail
  (with_reducible refine AK1.mono ?_)
  rintro e z1 ⟨rfl, h1⟩
  have g1 : (w.alloc (.cells #[.string ⟨#[]⟩, .string ⟨#[]⟩] 26)).grownBy z1 none := by rw [← h1]; exact World.grownBy_alloc _ _ none
  have HK1 := Lib.hid (HK0.out.kept g1 (by simp))
  have HG1 := Lib.hid (grow_trans HG0.out g1)
  have hh1 := Blk.kept HH.out HG1.out (by simp)
  have d0 := Blk.cell hh1 0
  have d1 := Blk.cell hh1 1
  have d2 := Blk.cell hh1 2
  have d3 := Blk.cell hh1 3
  have d4 := Blk.cell hh1 4
  have HH1 := Lib.hid hh1
  clear h1 g1 HK0 HG0 AK1 hh1
  go_wp2_with fail
  (with_reducible refine (AI _).mono ?_)
  rintro e z ⟨rfl, rfl⟩
  go_wp2_with fail
  (with_reducible refine (AP _).mono ?_)
  rintro e z2 ⟨rfl, g2⟩
  have hm0 : Mx z1 ((z1.alloc (.cells #[.iface T (.agg #[]), .string ⟨x5.h.toArray⟩, .string ⟨x5.c.toArray⟩, .string ⟨x5.k.toArray⟩, .int .u64 (x5.n : Int)] 78)).alloc (.cells #[.pointer (some ⟨z1.heap.size, 0, none⟩), .int .i64 0] 69)) (z1.heap.size + 1) z1.heap.size s x5 := by
    have e2 : (z1.alloc (.cells #[.iface T (.agg #[]), .string ⟨x5.h.toArray⟩, .string ⟨x5.c.toArray⟩, .string ⟨x5.k.toArray⟩, .int .u64 (x5.n : Int)] 78)).heap.size = z1.heap.size + 1 := by simp
    refine ⟨?_, by unfold NAt NSt nstC; rw [hT]; exact obj_alloc (obj_new z1 _), by omega, grow_alloc (World.grownBy_alloc z1 _ none) _, by omega, Nat.le_refl _⟩
    have := obj_new (z1.alloc (.cells #[.iface T (.agg #[]), .string ⟨x5.h.toArray⟩, .string ⟨x5.c.toArray⟩, .string ⟨x5.k.toArray⟩, .int .u64 (x5.n : Int)] 78)) (.cells #[.pointer (some ⟨z1.heap.size, 0, none⟩), .int .i64 0] 69)
    rw [e2] at this
    exact this
  have B1 := C1 _ _ _ _ (hm0.new g2)
  clear g2 hm0 AP AI C1 d0 d1 d2 d3 d4
  go_wp2_with fail
  (with_reducible refine B1.mono ?_)
  rintro e z3 ⟨rfl, h3⟩
  have B2 := C2 _ _ _ _ h3
  have d7 := Blk.cell (Blk.kept HH1.out h3.g (by simp)) 7
  clear h3 B1 C2
  go_wp2_with fail
  (with_reducible refine B2.mono ?_)
  rintro e z4 ⟨rfl, h4⟩
  have B3 := C3 _ _ _ _ h4
  have d8 := Blk.cell (Blk.kept HH1.out h4.g (by simp)) 8
  clear h4 B2 C3 d7
  go_wp2_with fail
  (with_reducible refine B3.mono ?_)
  rintro e z5 ⟨rfl, h5⟩
  have B4 := C4 _ _ _ _ h5
  obtain ⟨e0, e1, _⟩ := h5.cells
  clear h5 B3 C4 d8
  go_wp2_with fail
  (with_reducible refine B4.mono ?_)
  rintro e z6 ⟨rfl, h6⟩
  have h6' := h6.new (World.grownBy_alloc z6 (.cells #[.int .u8 (worst : Int)] 5) none)
  have B5 := C5 _ _ _ _ h6'
  clear h6 h6' B4 C5 e0 e1
  go_wp2_with fail
  (with_reducible refine B5.mono ?_)
  rintro e z7 ⟨rfl, h7⟩
  obtain ⟨e0, e1, _⟩ := h7.cells
  have B6 := C6 _ _ _ _ h7
  have H7 := Lib.hid h7
  clear h7 B5 C6
  go_wp2_with fail
  (with_reducible refine B6.mono ?_)
  rintro e z8 ⟨rfl, g8⟩
  have H8 := Lib.hid (H7.out.new g8)
  clear H7 g8 B6 e0 e1
  have HK8 := Lib.hid (HK1.out.kept H8.out.g (by simp))
  have hh8 := Blk.kept HH1.out H8.out.g (by simp)
  have SK : ∀ W : World, z8.grownBy W (some w.heap.size) → Blk W hb 80 [.iface T (.agg #[]), .string ⟨x5.h.toArray⟩, .string ⟨x5.c.toArray⟩, .string ⟨x5.k.toArray⟩, .int .u64 (x5.n : Int), .int .i64 (s : Int), .int .u32 (index : Int), .string ⟨PO.toArray⟩, .string ⟨PS.toArray⟩] := fun W g =>
    hh8.kept g (by simp; omega)
  have lt8 : w.heap.size < z8.heap.size := Blk.lt HK8.out
  clear hh8
  go_upto_region 14 with (fail)
  refine drawn_region (some w.heap.size) 24 (fun x => Blk x w.heap.size 26 [.string ⟨#[]⟩, .string ⟨#[]⟩]) [89, 90, 91, 92, 93, 94, 95, 96, 97, 98, 99, 100, 101, 102, 103, 104, 105, 106, 107, 108, 109, 110, 111, 10, 100024, 12] [(PEq (.pointer (some ⟨hb, 0, none⟩))), (PEq (.pointer (some ⟨hb, 0, none⟩))), (PEq (.pointer (some ⟨hb, 5, none⟩))), (PEq (.int .i64 (s : Int))), (PEq (.int .u8 (s : Int))), (PBlk z8.heap.size 5 [.int .u8 2, .int .u8 (s : Int)] (fun g => .slice (some ⟨g, 0, none⟩) 2 2)), (PEq (.string ⟨[2, UInt8.ofNat s].toArray⟩)), (PEq (.int .u32 (id : Int))), (PEq (.string ⟨ic.toArray⟩)), (PEq (.string ⟨(2 :: UInt8.ofNat s :: ic).toArray⟩)), (PEq (.pointer (some ⟨hb, 0, none⟩))), (PEq (.pointer (some ⟨hb, 0, none⟩))), (PEq (.pointer (some ⟨hb, 6, none⟩))), (PEq (.int .u32 (index : Int))), (PEq (.string ⟨ix.toArray⟩)), (PEq (.string ⟨(2 :: UInt8.ofNat s :: (ic ++ ix)).toArray⟩)), (PEq (.string ⟨PQ.toArray⟩)), (PEq (.string ⟨(2 :: UInt8.ofNat s :: (ic ++ (ix ++ PQ))).toArray⟩)), (PEq (.string ⟨vc.toArray⟩)), (PEq (.string ⟨(2 :: UInt8.ofNat s :: (ic ++ (ix ++ (PQ ++ vc)))).toArray⟩)), (PEq (.string ⟨k2.toArray⟩)), (PEq (.string ⟨k1.toArray⟩)), (PEq (.agg #[.string ⟨k2.toArray⟩, .string ⟨k1.toArray⟩])), (PEq (.string ⟨(2 :: UInt8.ofNat s :: (ic ++ (ix ++ (PQ ++ vc)))).toArray⟩)), (PKept w.heap.size 26 [.string ⟨k2.toArray⟩, .string ⟨k1.toArray⟩]), (PEq (.int .i64 0))] follows_mixedD (by kernel_rfl) (by kernel_rfl) (by decide) (by rfl) (HK8.out) (fun x y h g => Blk.kept h g (by simp)) ?_ ?_ ?_
  · exact ⟨mono_eq _, mono_eq _, mono_eq _, mono_eq _, mono_eq _, mono_blk (fun B e => by simp at e; omega) _ _ _, mono_eq _, mono_eq _, mono_eq _, mono_eq _, mono_eq _, mono_eq _, mono_eq _, mono_eq _, mono_eq _, mono_eq _, mono_eq _, mono_eq _, mono_eq _, mono_eq _, mono_eq _, mono_eq _, mono_eq _, mono_eq _, mono_kept _ _ _, mono_eq _, True.intro⟩
  · intro vs x hl hg
    obtain ⟨v0, v1, v2, v3, v4, v5, v6, v7, v8, v9, v10, v11, v12, v13, v14, v15, v16, v17, v18, v19, v20, v21, v22, v23, v24, v25, rfl⟩ := lenD26 hl
    simp only [layAll, Act.put, List.setIfInBounds_toArray, List.set_cons_succ, List.set_cons_zero]
    have ht := SK x hg
    have t5 := Blk.cell ht 5
    have t6 := Blk.cell ht 6
    clear ht
    refine stepsL_cons (fun K hw hr hK => ?_) <| stepsL_cons (fun K hw hr hK => ?_) <| stepsL_cons (fun K hw hr hK => ?_) <| stepsL_cons (fun K hw hr hK => ?_) <| stepsL_cons (fun K hw hr hK => ?_) <| stepsL_cons (fun K hw hr hK => ?_) <| stepsL_cons (fun K hw hr hK => ?_) <| stepsL_cons (fun K hw hr hK => ?_) <| stepsL_cons (fun K hw hr hK => ?_) <| stepsL_cons (fun K hw hr hK => ?_) <| stepsL_cons (fun K hw hr hK => ?_) <| stepsL_cons (fun K hw hr hK => ?_) <| stepsL_cons (fun K hw hr hK => ?_) <| stepsL_cons (fun K hw hr hK => ?_) <| stepsL_cons (fun K hw hr hK => ?_) <| stepsL_cons (fun K hw hr hK => ?_) <| stepsL_cons (fun K hw hr hK => ?_) <| stepsL_cons (fun K hw hr hK => ?_) <| stepsL_cons (fun K hw hr hK => ?_) <| stepsL_cons (fun K hw hr hK => ?_) <| stepsL_cons (fun K hw hr hK => ?_) <| stepsL_cons (fun K hw hr hK => ?_) <| stepsL_cons (fun K hw hr hK => ?_) <| stepsL_cons (fun K hw hr hK => ?_) <| stepsL_cons (fun K hw hr hK => ?_) <| stepsL_cons (fun K hw hr hK => ?_) <| stepsL_nil
    · -- 0: move
      unfold Oper.wp
      go_simp
      exact hK _ _ rfl (grow_refl _ _)
    · -- 1: nilCheck
      have f0 : v0 = _ := hw 0 (by kernel_rfl)
      subst f0
      unfold Oper.wp
      go_simp
      exact hK _ _ rfl (grow_refl _ _)
    · -- 2: fieldAddr
      have f1 : v1 = _ := hw 1 (by kernel_rfl)
      subst f1
      unfold Oper.wp
      go_simp
      exact hK _ _ rfl (grow_refl _ _)
    · -- 3: load
      have f2 : v2 = _ := hw 2 (by kernel_rfl)
      subst f2
      unfold Oper.wp
      go_simp
      exact hK _ _ rfl (grow_refl _ _)
    · -- 4: convert
      have f3 : v3 = _ := hw 3 (by kernel_rfl)
      subst f3
      unfold Oper.wp
      go_simp
      exact hK _ _ rfl (grow_refl _ _)
    · -- 5: buildSlice
      have f4 : v4 = _ := hw 4 (by kernel_rfl)
      subst f4
      unfold Oper.wp
      go_simp
      exact hK _ _ ⟨x.heap.size, rfl, hg.size, Blk.new x _ _⟩ (World.grownBy_alloc x _ none)
    · -- 6: convert
      obtain ⟨g5, f5, l5, b5⟩ := hw 5 (by kernel_rfl)
      have f5 : v5 = _ := f5
      subst f5
      have kc := conv_two 2 2 rfl h12 b5
      unfold S at kc
      unfold Oper.wp
      go_simp
      exact hK _ _ rfl (grow_refl _ _)
    · -- 7: move
      unfold Oper.wp
      go_simp
      exact hK _ _ rfl (grow_refl _ _)
    · -- 8: call
      have f7 : v7 = _ := hw 7 (by kernel_rfl)
      subst f7
      unfold Oper.wp
      go_simp
      (with_reducible first | refine (A9 _).mono ?_ | refine (A8 _).mono ?_)
      rintro e z ⟨rfl, gz⟩
      exact hK _ _ rfl gz
    · -- 9: binOp
      have f6 : v6 = _ := hw 6 (by kernel_rfl)
      subst f6
      have f8 : v8 = _ := hw 8 (by kernel_rfl)
      subst f8
      unfold Oper.wp
      go_simp
      exact hK _ _ rfl (grow_refl _ _)
    · -- 10: move
      unfold Oper.wp
      go_simp
      exact hK _ _ rfl (grow_refl _ _)
    · -- 11: nilCheck
      have f10 : v10 = _ := hw 10 (by kernel_rfl)
      subst f10
      unfold Oper.wp
      go_simp
      exact hK _ _ rfl (grow_refl _ _)
    · -- 12: fieldAddr
      have f11 : v11 = _ := hw 11 (by kernel_rfl)
      subst f11
      unfold Oper.wp
      go_simp
      exact hK _ _ rfl (grow_refl _ _)
    · -- 13: load
      have f12 : v12 = _ := hw 12 (by kernel_rfl)
      subst f12
      unfold Oper.wp
      go_simp
      exact hK _ _ rfl (grow_refl _ _)
    · -- 14: call
      have f13 : v13 = _ := hw 13 (by kernel_rfl)
      subst f13
      unfold Oper.wp
      go_simp
      (with_reducible first | refine (A9 _).mono ?_ | refine (A8 _).mono ?_)
      rintro e z ⟨rfl, gz⟩
      exact hK _ _ rfl gz
    · -- 15: binOp
      have f9 : v9 = _ := hw 9 (by kernel_rfl)
      subst f9
      have f14 : v14 = _ := hw 14 (by kernel_rfl)
      subst f14
      unfold Oper.wp
      go_simp
      exact hK _ _ rfl (grow_refl _ _)
    · -- 16: move
      unfold Oper.wp
      go_simp
      exact hK _ _ rfl (grow_refl _ _)
    · -- 17: binOp
      have f15 : v15 = _ := hw 15 (by kernel_rfl)
      subst f15
      have f16 : v16 = _ := hw 16 (by kernel_rfl)
      subst f16
      unfold Oper.wp
      go_simp
      exact hK _ _ rfl (grow_refl _ _)
    · -- 18: move
      unfold Oper.wp
      go_simp
      exact hK _ _ rfl (grow_refl _ _)
    · -- 19: binOp
      have f17 : v17 = _ := hw 17 (by kernel_rfl)
      subst f17
      have f18 : v18 = _ := hw 18 (by kernel_rfl)
      subst f18
      unfold Oper.wp
      go_simp
      exact hK _ _ rfl (grow_refl _ _)
    · -- 20: move
      unfold Oper.wp
      go_simp
      exact hK _ _ rfl (grow_refl _ _)
    · -- 21: move
      unfold Oper.wp
      go_simp
      exact hK _ _ rfl (grow_refl _ _)
    · -- 22: build
      have f20 : v20 = _ := hw 20 (by kernel_rfl)
      subst f20
      have f21 : v21 = _ := hw 21 (by kernel_rfl)
      subst f21
      unfold Oper.wp
      go_simp
      exact hK _ _ rfl (grow_refl _ _)
    · -- 23: assign
      have f19 : v19 = _ := hw 19 (by kernel_rfl)
      subst f19
      unfold Oper.wp
      go_simp
      exact hK _ _ rfl (grow_refl _ _)
    · -- 24: store
      have f22 : v22 = _ := hw 22 (by kernel_rfl)
      subst f22
      have hB := hr (Or.inl rfl)
      have z0 := Blk.cell hB 0
      have z1' := Blk.cell hB 1
      have q0 := Blk.frozen hB 0
      have q1 := Blk.frozen hB 1
      unfold Oper.wp
      go_simp
      exact hK undef _ ((hB.set 0 _).set 1 _) (by rw [if_pos rfl]; exact grow_setCell (grow_setCell (grow_refl _ _) 0 _) 1 _)
    · -- 25: assign
      unfold Oper.wp
      go_simp
      exact hK _ _ rfl (grow_refl _ _)
  · intro vs x hl hg hp
    obtain ⟨v0, v1, v2, v3, v4, v5, v6, v7, v8, v9, v10, v11, v12, v13, v14, v15, v16, v17, v18, v19, v20, v21, v22, v23, v24, v25, rfl⟩ := lenD26 hl
    have f0 : v0 = _ := hp 0 _ rfl
    have f1 : v1 = _ := hp 1 _ rfl
    have f2 : v2 = _ := hp 2 _ rfl
    have f3 : v3 = _ := hp 3 _ rfl
    have f4 : v4 = _ := hp 4 _ rfl
    obtain ⟨g5, f5, l5, b5⟩ := hp 5 _ rfl
    have f5 : v5 = _ := f5
    have f6 : v6 = _ := hp 6 _ rfl
    have f7 : v7 = _ := hp 7 _ rfl
    have f8 : v8 = _ := hp 8 _ rfl
    have f9 : v9 = _ := hp 9 _ rfl
    have f10 : v10 = _ := hp 10 _ rfl
    have f11 : v11 = _ := hp 11 _ rfl
    have f12 : v12 = _ := hp 12 _ rfl
    have f13 : v13 = _ := hp 13 _ rfl
    have f14 : v14 = _ := hp 14 _ rfl
    have f15 : v15 = _ := hp 15 _ rfl
    have f16 : v16 = _ := hp 16 _ rfl
    have f17 : v17 = _ := hp 17 _ rfl
    have f18 : v18 = _ := hp 18 _ rfl
    have f19 : v19 = _ := hp 19 _ rfl
    have f20 : v20 = _ := hp 20 _ rfl
    have f21 : v21 = _ := hp 21 _ rfl
    have f22 : v22 = _ := hp 22 _ rfl
    have f23 : v23 = _ := hp 23 _ rfl
    have b24 := hp 24 _ rfl
    have f25 : v25 = _ := hp 25 _ rfl
    subst f0
    subst f1
    subst f2
    subst f3
    subst f4
    subst f5
    subst f6
    subst f7
    subst f8
    subst f9
    subst f10
    subst f11
    subst f12
    subst f13
    subst f14
    subst f15
    subst f16
    subst f17
    subst f18
    subst f19
    subst f20
    subst f21
    subst f22
    subst f23
    subst f25
    simp only [layAll, Act.put, List.setIfInBounds_toArray, List.set_cons_succ, List.set_cons_zero]
    clear hp hl
    have t0 := Blk.cell b24 0
    have t1 := Blk.cell b24 1
    go_wp2_with fail
    refine bodyPost_ret (v := .tuple #[.string ⟨(2 :: UInt8.ofNat s :: (ic ++ (ix ++ (PQ ++ vc)))).toArray⟩, .agg #[.string ⟨k2.toArray⟩, .string ⟨k1.toArray⟩], .int .i64 0]) (by simp [results, Tryz.results15, go_sem, t0, t1]) rfl ?_
    exact ⟨rfl, grow_trans_new (grow_trans HG1.out H8.out.g) hg (Nat.le_refl _)⟩

end Go.Proofs.YtcmncdaojmkfgaaGreatDoor
