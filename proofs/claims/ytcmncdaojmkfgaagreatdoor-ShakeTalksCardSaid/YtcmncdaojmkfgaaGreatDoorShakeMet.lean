/- The keeper's met: two who meet. -/
import Derived.Test.YtcmncdaojmkfgaaGreatDoorShakeFinish
import Derived.Test.YtcmncdaojmkfgaaGreatDoorR16
namespace Go.Proofs.YtcmncdaojmkfgaaGreatDoor
open Go.RowKit
set_option linter.unusedVariables false

def metOf (r rb rq : Nat) (cown cpsk peer once other : List UInt8) (index id : Nat) : Met := ⟨1 + r, sizedL cown 32, sizedL peer 32, sizedL cpsk 32, sizedL once 32, sizedL other 32, 1 + rb, 1 + rq, index, id⟩
theorem metOf_ok (r rb rq : Nat) (cown cpsk peer once other : List UInt8) (index id : Nat) (hr : r < 2) (hb : rb < 2) (hq : rq < 2) (hi : index < 4294967296) (hj : id < 4294967296) : (metOf r rb rq cown cpsk peer once other index id).ok :=
  ⟨by show 1 + r = 1 ∨ 1 + r = 2; omega, sizedL_length _ _, sizedL_length _ _, sizedL_length _ _, sizedL_length _ _, sizedL_length _ _, by show 1 + rb = 1 ∨ 1 + rb = 2; omega, by show 1 + rq = 1 ∨ 1 + rq = 2; omega, hi, hj⟩
/-- The blocks that met has. -/
structure MB (w W : World) (cfg a b : List Value) : Prop where
  g : w.grownBy W none
  c : Blk W w.heap.size 23 cfg
  a : Blk W (w.heap.size + 1) 26 a
  b : Blk W (w.heap.size + 1 + 1) 26 b
theorem MB.new {w W W' : World} {cfg a b : List Value} (h : MB w W cfg a b) (g : W.grownBy W' none) : MB w W' cfg a b := ⟨grow_trans h.g g, h.c.kept g (by simp), h.a.kept g (by simp), h.b.kept g (by simp)⟩
theorem MB.setc {w W : World} {cfg a b : List Value} (h : MB w W cfg a b) (i : Nat) (v : Value) : MB w (W.setCell ⟨w.heap.size, i, none⟩ v) (cfg.set i v) a b :=
  ⟨grow_trans_new h.g (grow_setCell (grow_refl W (some w.heap.size)) i v) (Nat.le_refl _), h.c.set i v, h.a.kept (grow_setCell (grow_refl W (some w.heap.size)) i v) (fun e => by have := Option.some.inj e; omega), h.b.kept (grow_setCell (grow_refl W (some w.heap.size)) i v) (fun e => by have := Option.some.inj e; omega)⟩
theorem MB.seta {w W : World} {cfg a b : List Value} (h : MB w W cfg a b) (i : Nat) (v : Value) : MB w (W.setCell ⟨w.heap.size + 1, i, none⟩ v) cfg (a.set i v) b :=
  ⟨grow_trans_new h.g (grow_setCell (grow_refl W (some (w.heap.size + 1))) i v) (by omega), h.c.kept (grow_setCell (grow_refl W (some (w.heap.size + 1))) i v) (fun e => by have := Option.some.inj e; omega), h.a.set i v, h.b.kept (grow_setCell (grow_refl W (some (w.heap.size + 1))) i v) (fun e => by have := Option.some.inj e; omega)⟩
theorem MB.setb {w W : World} {cfg a b : List Value} (h : MB w W cfg a b) (i : Nat) (v : Value) : MB w (W.setCell ⟨w.heap.size + 1 + 1, i, none⟩ v) cfg a (b.set i v) :=
  ⟨grow_trans_new h.g (grow_setCell (grow_refl W (some (w.heap.size + 1 + 1))) i v) (by omega), h.c.kept (grow_setCell (grow_refl W (some (w.heap.size + 1 + 1))) i v) (fun e => by have := Option.some.inj e; omega), h.a.kept (grow_setCell (grow_refl W (some (w.heap.size + 1 + 1))) i v) (fun e => by have := Option.some.inj e; omega), h.b.set i v⟩
/-- Behind it all: what both have. -/
structure MV (w : World) (C : Nat) (W : World) (p q : Value) : Prop where
  g : w.grownBy W none
  a : Blk W (w.heap.size + 1) 26 [p, q]
  b : Blk W (w.heap.size + 1 + 1) 26 [q, p]
  c : Blk W C 26 [q, p]
  l : w.heap.size + 1 + 1 < C
theorem MV.drew {w W : World} {C : Nat} {p q : Value} (h : MV w C W p q) : MV w C W.drew p q := ⟨grow_drew h.g, h.a.drew, h.b.drew, h.c.drew, h.l⟩
theorem MV.seta {w W : World} {C : Nat} {p q : Value} (h : MV w C W p q) : MV w C ((W.setCell ⟨w.heap.size + 1, 0, none⟩ p).setCell ⟨w.heap.size + 1, 1, none⟩ q) p q := by
  have g := grow_setCell (grow_setCell (grow_refl W (some (w.heap.size + 1))) 0 p) 1 q
  have l := h.l
  exact ⟨grow_trans_new h.g g (by omega), (h.a.set 0 p).set 1 q, h.b.kept g (fun e => by have := Option.some.inj e; omega), h.c.kept g (fun e => by have := Option.some.inj e; omega), l⟩
theorem MV.setb {w W : World} {C : Nat} {p q : Value} (h : MV w C W p q) : MV w C ((W.setCell ⟨w.heap.size + 1 + 1, 0, none⟩ q).setCell ⟨w.heap.size + 1 + 1, 1, none⟩ p) p q := by
  have g := grow_setCell (grow_setCell (grow_refl W (some (w.heap.size + 1 + 1))) 0 q) 1 p
  have l := h.l
  exact ⟨grow_trans_new h.g g (by omega), h.a.kept g (fun e => by have := Option.some.inj e; omega), (h.b.set 0 q).set 1 p, h.c.kept g (fun e => by have := Option.some.inj e; omega), l⟩
theorem MV.cells {w W : World} {C : Nat} {p q : Value} (h : MV w C W p q) :
    W.cell? ⟨w.heap.size + 1, 0, none⟩ = some p ∧ W.cell? ⟨w.heap.size + 1, 1, none⟩ = some q ∧ W.frozen? ⟨w.heap.size + 1, 0, none⟩ = false ∧ W.frozen? ⟨w.heap.size + 1, 1, none⟩ = false ∧
    W.cell? ⟨w.heap.size + 1 + 1, 0, none⟩ = some q ∧ W.cell? ⟨w.heap.size + 1 + 1, 1, none⟩ = some p ∧ W.frozen? ⟨w.heap.size + 1 + 1, 0, none⟩ = false ∧ W.frozen? ⟨w.heap.size + 1 + 1, 1, none⟩ = false ∧ W.cell? ⟨C, 0, none⟩ = some q ∧ W.cell? ⟨C, 1, none⟩ = some p :=
  ⟨Blk.cell h.a 0, Blk.cell h.a 1, Blk.frozen h.a 0, Blk.frozen h.a 1, Blk.cell h.b 0, Blk.cell h.b 1, Blk.frozen h.b 0, Blk.frozen h.b 1, Blk.cell h.c 0, Blk.cell h.c 1⟩
theorem lenD12 {vs : List Value} (h : vs.length = 12) : ∃ v0 v1 v2 v3 v4 v5 v6 v7 v8 v9 v10 v11, vs = [v0, v1, v2, v3, v4, v5, v6, v7, v8, v9, v10, v11] := by
  match vs, h with
  | [v0, v1, v2, v3, v4, v5, v6, v7, v8, v9, v10, v11], _ => exact ⟨v0, v1, v2, v3, v4, v5, v6, v7, v8, v9, v10, v11, rfl⟩
def MetTo (w : World) (t : Met) (e : Ending) (w' : World) : Prop :=
  e = .returned (.tuple #[S t.first, S t.second, .agg #[S t.k1, S t.k2], .agg #[S t.k2, S t.k1], .bool true]) ∧ w.grownBy w' none

set_option maxRecDepth 20000 in
set_option maxHeartbeats 16000000 in
theorem code_met (w : World) (t : Met) (o : t.ok) (r rb rq : Nat) (c0 best worst : Int) (cown cpeer cpsk peer once other : List UInt8) (hs : t.s = 1 + r) (hb : t.best = 1 + rb) (hq : t.worst = 1 + rq)
    (R0 : ∀ W : World, Calls Tryz.prog 9 #[.int .i64 c0, .int .i64 2] W fun e w' => e = .returned (.int .i64 (r : Int)) ∧ W = w') (R1 : ∀ W : World, Calls Tryz.prog 9 #[.int .i64 best, .int .i64 2] W fun e w' => e = .returned (.int .i64 (rb : Int)) ∧ W = w')
    (R2 : ∀ W : World, Calls Tryz.prog 9 #[.int .i64 worst, .int .i64 2] W fun e w' => e = .returned (.int .i64 (rq : Int)) ∧ W = w')
    (Z1 : ∀ W : World, Calls Tryz.prog 7 #[S cown, .int .i64 32] W (Grown (S t.own) W)) (Z2 : ∀ W : World, Calls Tryz.prog 7 #[S cpsk, .int .i64 32] W (Grown (S t.psk) W)) (Z3 : ∀ W : World, Calls Tryz.prog 7 #[S peer, .int .i64 32] W (Grown (S t.prv) W))
    (Z4 : ∀ W : World, Calls Tryz.prog 7 #[S once, .int .i64 32] W (Grown (S t.once) W)) (Z5 : ∀ W : World, Calls Tryz.prog 7 #[S other, .int .i64 32] W (Grown (S t.other) W)) :
    Calls Tryz.prog 6 #[.agg #[.int .i64 c0, S cown, S cpeer, S cpsk], S peer, S once, S other, .int .i64 best, .int .i64 worst, .int .u32 (t.index : Int), .int .u32 (t.id : Int)] w (MetTo w t) := by
  have P1 : ∀ W : World, Calls Tryz.prog 13 #[S t.prv] W (Grown (.tuple #[S t.PP, .int .i64 0]) W) := fun W => code_cpublic W t.prv o.prv
  have P2 : ∀ W : World, Calls Tryz.prog 13 #[S t.own] W (Grown (.tuple #[S t.PS, .int .i64 0]) W) := fun W => code_cpublic W t.own o.own
  have AB := fun W : World => code_sbegin W t o o.nz1 o.nz2
  have AH := fun W : World => code_shear W t o
  have AA := fun (W : World) (g : Nat) (h : Blk W g 80 (heardC t)) => code_sanswer W t o g h
  have AF := fun (W : World) (g : Nat) (h : Blk W g 93 (begunC t)) => code_sfinish W t o g h
  have htv : toldV t = .agg #[.int .i64 (t.s : Int), .int .u32 (t.index : Int), S t.PS, .int .i64 7, .int .i64 9, .int .i64 (t.best : Int)] := rfl
  have ws : IntKind.i64.wrap (1 + (r : Int)) = (t.s : Int) := by rw [IntWalk.i64_in _ (by rcases o.s with e | e <;> omega), hs]; omega
  have wb : IntKind.i64.wrap (1 + (rb : Int)) = (t.best : Int) := by rw [IntWalk.i64_in _ (by rcases o.best with e | e <;> omega), hb]; omega
  have wq : IntKind.i64.wrap (1 + (rq : Int)) = (t.worst : Int) := by rw [IntWalk.i64_in _ (by rcases o.worst with e | e <;> omega), hq]; omega
  have w64 : IntKind.i64.wrap (t.s : Int) = (t.s : Int) := IntWalk.i64_in _ (by rcases o.s with e | e <;> omega)
  have w65 : IntKind.i64.wrap (t.best : Int) = (t.best : Int) := IntWalk.i64_in _ (by rcases o.best with e | e <;> omega)
  have w66 : IntKind.i64.wrap (t.worst : Int) = (t.worst : Int) := IntWalk.i64_in _ (by rcases o.worst with e | e <;> omega)
  have x64 : wrap64 (t.best : Int) = (t.best : Int) := IntWalk.wrap64_in _ (by rcases o.best with e | e <;> omega)
  have x65 : wrap64 (t.worst : Int) = (t.worst : Int) := IntWalk.wrap64_in _ (by rcases o.worst with e | e <;> omega)
  have x66 : wrap64 (t.s : Int) = (t.s : Int) := IntWalk.wrap64_in _ (by rcases o.s with e | e <;> omega)
  have vs : 1 + (r : Int) = (t.s : Int) := by omega
  have vb : 1 + (rb : Int) = (t.best : Int) := by omega
  have vq : 1 + (rq : Int) = (t.worst : Int) := by omega
  unfold MetTo
  unfold BegunTo at AB
  unfold HeardTo at AH
  unfold AnsweredTo at AA
  unfold FinishedTo at AF
  rw [htv] at AH
  have HGT := Lib.hid (rfl : toldV t = toldV t)
  generalize heardC t = hc at *
  generalize begunC t = bc at *
  generalize t.first = first at *
  generalize t.second = second at *
  generalize t.k1 = k1 at *
  generalize t.k2 = k2 at *
  generalize t.PP = PP at *
  generalize t.PS = PS at *
  generalize t.own = own at *
  generalize t.psk = psk at *
  generalize t.prv = prv at *
  generalize t.once = ons at *
  generalize t.other = oth at *
  generalize t.s = s at *
  generalize t.best = bst at *
  generalize t.worst = wst at *
  generalize t.index = index at *
  generalize t.id = id at *
  clear o hs hb hq htv HGT
  unfold S at *
  go_enter Tryz.func6, Tryz.ntmps6
  obtain ⟨w3, hw3⟩ : ∃ w3, w3 = (((w.alloc (.cells #[.int .i64 c0, .string ⟨cown.toArray⟩, .string ⟨cpeer.toArray⟩, .string ⟨cpsk.toArray⟩] 23)).alloc (.cells #[.string ⟨#[]⟩, .string ⟨#[]⟩] 26)).alloc (.cells #[.string ⟨#[]⟩, .string ⟨#[]⟩] 26)) := ⟨_, rfl⟩
  have hBc : Blk w3 w.heap.size 23 [.int .i64 c0, .string ⟨cown.toArray⟩, .string ⟨cpeer.toArray⟩, .string ⟨cpsk.toArray⟩] := by rw [hw3]; exact obj_alloc (obj_alloc (obj_new w _))
  have hBa : Blk w3 (w.heap.size + 1) 26 [.string ⟨#[]⟩, .string ⟨#[]⟩] := by
    have := obj_new (w.alloc (.cells #[.int .i64 c0, .string ⟨cown.toArray⟩, .string ⟨cpeer.toArray⟩, .string ⟨cpsk.toArray⟩] 23)) (.cells #[.string ⟨#[]⟩, .string ⟨#[]⟩] 26)
    rw [World.size_alloc] at this
    rw [hw3]
    exact obj_alloc this
  have hBb : Blk w3 (w.heap.size + 1 + 1) 26 [.string ⟨#[]⟩, .string ⟨#[]⟩] := by
    have := obj_new ((w.alloc (.cells #[.int .i64 c0, .string ⟨cown.toArray⟩, .string ⟨cpeer.toArray⟩, .string ⟨cpsk.toArray⟩] 23)).alloc (.cells #[.string ⟨#[]⟩, .string ⟨#[]⟩] 26)) (.cells #[.string ⟨#[]⟩, .string ⟨#[]⟩] 26)
    rw [World.size_alloc, World.size_alloc] at this
    rw [hw3]
    exact this
  have hG3 : w.grownBy w3 none := by rw [hw3]; exact grow_alloc (grow_alloc (World.grownBy_alloc w _ none) _) _
  have k0 := Blk.cell hBc 0
  have k1' := Blk.cell hBc 1
  have k3 := Blk.cell hBc 3
  have f0 := Blk.frozen hBc 0
  have f1 := Blk.frozen hBc 1
  have f2 := Blk.frozen hBc 2
  have f3 := Blk.frozen hBc 3
  have HW3 := Lib.hid hw3
  clear hw3
  go_upto_region 1 with (fail)
  rw [← HW3.out]
  clear HW3
  refine drawn_region (some w.heap.size) 11 (fun x => Blk x w.heap.size 23 [.int .i64 c0, .string ⟨cown.toArray⟩, .string ⟨cpeer.toArray⟩, .string ⟨cpsk.toArray⟩]) [36, 37, 38, 39, 40, 41, 42, 43, 44, 45, 46, 100011] [(PEq (.pointer (some ⟨w.heap.size, 0, none⟩))), (PEq (.int .i64 c0)), (PEq (.int .i64 (r : Int))), (PEq (.int .i64 (s : Int))), (PEq (.pointer (some ⟨w.heap.size, 1, none⟩))), (PEq (.string ⟨cown.toArray⟩)), (PEq (.string ⟨own.toArray⟩)), (PEq (.pointer (some ⟨w.heap.size, 3, none⟩))), (PEq (.string ⟨cpsk.toArray⟩)), (PEq (.string ⟨psk.toArray⟩)), (PEq (.agg #[.int .i64 (s : Int), .string ⟨own.toArray⟩, .string ⟨#[]⟩, .string ⟨psk.toArray⟩])), (PKept w.heap.size 23 [.int .i64 (s : Int), .string ⟨own.toArray⟩, .string ⟨#[]⟩, .string ⟨psk.toArray⟩])] follows_mixedD (by kernel_rfl) (by kernel_rfl) (by decide) (by rfl) (hBc) (fun x y h g => Blk.kept h g (by simp)) ?_ ?_ ?_
  · exact ⟨mono_eq _, mono_eq _, mono_eq _, mono_eq _, mono_eq _, mono_eq _, mono_eq _, mono_eq _, mono_eq _, mono_eq _, mono_eq _, mono_kept _ _ _, True.intro⟩
  · intro vs x hl hg
    obtain ⟨v0, v1, v2, v3, v4, v5, v6, v7, v8, v9, v10, v11, rfl⟩ := lenD12 hl
    simp only [layAll, Act.put, List.setIfInBounds_toArray, List.set_cons_succ, List.set_cons_zero]
    refine stepsL_cons (fun K hw hr hK => ?_) <| stepsL_cons (fun K hw hr hK => ?_) <| stepsL_cons (fun K hw hr hK => ?_) <| stepsL_cons (fun K hw hr hK => ?_) <| stepsL_cons (fun K hw hr hK => ?_) <| stepsL_cons (fun K hw hr hK => ?_) <| stepsL_cons (fun K hw hr hK => ?_) <| stepsL_cons (fun K hw hr hK => ?_) <| stepsL_cons (fun K hw hr hK => ?_) <| stepsL_cons (fun K hw hr hK => ?_) <| stepsL_cons (fun K hw hr hK => ?_) <| stepsL_cons (fun K hw hr hK => ?_) <| stepsL_nil
    · -- 0: fieldAddr
      unfold Oper.wp
      go_simp
      exact hK _ _ rfl (grow_refl _ _)
    · -- 1: load
      have f0 : v0 = _ := hw 0 (by kernel_rfl)
      subst f0
      have hB := hr (Or.inr (by kernel_rfl))
      have z0 := Blk.cell hB 0
      unfold Oper.wp
      go_simp
      exact hK _ _ rfl (grow_refl _ _)
    · -- 2: call
      have f1 : v1 = _ := hw 1 (by kernel_rfl)
      subst f1
      unfold Oper.wp
      go_simp
      (with_reducible refine (R0 _).mono ?_)
      rintro e z ⟨rfl, rfl⟩
      exact hK _ _ rfl (grow_refl _ _)
    · -- 3: binOp
      have f2 : v2 = _ := hw 2 (by kernel_rfl)
      subst f2
      unfold Oper.wp
      go_simp
      exact hK _ _ rfl (grow_refl _ _)
    · -- 4: fieldAddr
      unfold Oper.wp
      go_simp
      exact hK _ _ rfl (grow_refl _ _)
    · -- 5: load
      have f4 : v4 = _ := hw 4 (by kernel_rfl)
      subst f4
      have hB := hr (Or.inr (by kernel_rfl))
      have z0 := Blk.cell hB 1
      unfold Oper.wp
      go_simp
      exact hK _ _ rfl (grow_refl _ _)
    · -- 6: call
      have f5 : v5 = _ := hw 5 (by kernel_rfl)
      subst f5
      unfold Oper.wp
      go_simp
      (with_reducible first | refine (Z1 _).mono ?_ | refine (Z2 _).mono ?_)
      rintro e z ⟨rfl, gz⟩
      exact hK _ _ rfl gz
    · -- 7: fieldAddr
      unfold Oper.wp
      go_simp
      exact hK _ _ rfl (grow_refl _ _)
    · -- 8: load
      have f7 : v7 = _ := hw 7 (by kernel_rfl)
      subst f7
      have hB := hr (Or.inr (by kernel_rfl))
      have z0 := Blk.cell hB 3
      unfold Oper.wp
      go_simp
      exact hK _ _ rfl (grow_refl _ _)
    · -- 9: call
      have f8 : v8 = _ := hw 8 (by kernel_rfl)
      subst f8
      unfold Oper.wp
      go_simp
      (with_reducible first | refine (Z1 _).mono ?_ | refine (Z2 _).mono ?_)
      rintro e z ⟨rfl, gz⟩
      exact hK _ _ rfl gz
    · -- 10: build
      have f3 : v3 = _ := hw 3 (by kernel_rfl)
      subst f3
      have f6 : v6 = _ := hw 6 (by kernel_rfl)
      subst f6
      have f9 : v9 = _ := hw 9 (by kernel_rfl)
      subst f9
      unfold Oper.wp
      go_simp
      exact hK _ _ rfl (grow_refl _ _)
    · -- 11: store
      have f10 : v10 = _ := hw 10 (by kernel_rfl)
      subst f10
      have hB := hr (Or.inl rfl)
      have z0 := Blk.cell hB 0
      have z1 := Blk.cell hB 1
      have z2 := Blk.cell hB 2
      have z3 := Blk.cell hB 3
      have q0 := Blk.frozen hB 0
      have q1 := Blk.frozen hB 1
      have q2 := Blk.frozen hB 2
      have q3 := Blk.frozen hB 3
      unfold Oper.wp
      go_simp
      exact hK undef _ ((((hB.set 0 _).set 1 _).set 2 _).set 3 _) (by rw [if_pos rfl]; exact grow_setCell (grow_setCell (grow_setCell (grow_setCell (grow_refl _ _) 0 _) 1 _) 2 _) 3 _)
  · intro vs x hl hg hp
    obtain ⟨v0, v1, v2, v3, v4, v5, v6, v7, v8, v9, v10, v11, rfl⟩ := lenD12 hl
    have f0 : v0 = _ := hp 0 _ rfl
    have f1 : v1 = _ := hp 1 _ rfl
    have f2 : v2 = _ := hp 2 _ rfl
    have f3 : v3 = _ := hp 3 _ rfl
    have f4 : v4 = _ := hp 4 _ rfl
    have f5 : v5 = _ := hp 5 _ rfl
    have f6 : v6 = _ := hp 6 _ rfl
    have f7 : v7 = _ := hp 7 _ rfl
    have f8 : v8 = _ := hp 8 _ rfl
    have f9 : v9 = _ := hp 9 _ rfl
    have f10 : v10 = _ := hp 10 _ rfl
    have b11 := hp 11 _ rfl
    subst f0
    subst f1
    subst f2
    subst f3
    subst f4
    subst f5
    subst f6
    subst f7
    subst f8
    subst f9
    subst f10
    simp only [layAll, Act.put, List.setIfInBounds_toArray, List.set_cons_succ, List.set_cons_zero]
    clear hp hl
    have HM := Lib.hid (⟨grow_trans_new hG3 hg (Nat.le_refl _), b11, hBa.kept hg (by simp), hBb.kept hg (fun e => by have := Option.some.inj e; omega)⟩ : MB w x [.int .i64 (s : Int), .string ⟨own.toArray⟩, .string ⟨#[]⟩, .string ⟨psk.toArray⟩] [.string ⟨#[]⟩, .string ⟨#[]⟩] [.string ⟨#[]⟩, .string ⟨#[]⟩])
    clear b11 hBa hBb hBc hg hG3 Z1 Z2 R0 ws vs k0 k1' k3 f0 f1 f2 f3
    go_wp2_with fail
    (with_reducible refine (Z3 _).mono ?_)
    rintro e y1 ⟨rfl, g1⟩
    go_wp2_with fail
    (with_reducible refine (Z4 _).mono ?_)
    rintro e y2 ⟨rfl, g2⟩
    go_wp2_with fail
    (with_reducible refine (Z5 _).mono ?_)
    rintro e y3 ⟨rfl, g3⟩
    have HM3 := Lib.hid (((HM.out.new g1).new g2).new g3)
    clear HM g1 g2 g3 Z3 Z4 Z5
    go_wp2_with fail
    (with_reducible refine (R1 _).mono ?_)
    rintro e z ⟨rfl, rfl⟩
    go_wp2_with fail
    (with_reducible refine (R2 _).mono ?_)
    rintro e z ⟨rfl, rfl⟩
    go_wp2_with fail
    (with_reducible refine (P1 _).mono ?_)
    rintro e y4 ⟨rfl, g4⟩
    have hM4 := HM3.out.new g4
    have c1 : y4.cell? ⟨w.heap.size, 1, none⟩ = some (.string ⟨own.toArray⟩) := Blk.cell hM4.c 1
    have c2 : y4.cell? ⟨w.heap.size, 2, none⟩ = some (.string ⟨#[]⟩) := Blk.cell hM4.c 2
    have f2 := Blk.frozen hM4.c 2
    have HM4 := Lib.hid (hM4.setc 2 (.string ⟨PP.toArray⟩))
    clear HM3 g4 hM4 R1 R2 P1
    go_wp2_with fail
    (with_reducible refine (P2 _).mono ?_)
    rintro e y5 ⟨rfl, g5⟩
    have HM5 := Lib.hid (HM4.out.new g5)
    clear HM4 g5 P2 c1 c2 f2
    go_upto_region 7 with (fail)
    obtain ⟨yS, hyS⟩ : ∃ yS, yS = y5.alloc (.cells #[.int .i64 7, .int .i64 9] 32) := ⟨_, rfl⟩
    rw [← hyS]
    have gS : y5.grownBy yS none := by rw [hyS]; exact World.grownBy_alloc y5 _ none
    have hBS : Blk yS y5.heap.size 32 [.int .i64 7, .int .i64 9] := by rw [hyS]; exact Blk.new y5 _ _
    have hMS := HM5.out.new gS
    have k0 : yS.cell? ⟨w.heap.size, 0, none⟩ = some (.int .i64 (s : Int)) := Blk.cell hMS.c 0
    have k1' : yS.cell? ⟨w.heap.size, 1, none⟩ = some (.string ⟨own.toArray⟩) := Blk.cell hMS.c 1
    have k2' : yS.cell? ⟨w.heap.size, 2, none⟩ = some (.string ⟨PP.toArray⟩) := Blk.cell hMS.c 2
    have k3 : yS.cell? ⟨w.heap.size, 3, none⟩ = some (.string ⟨psk.toArray⟩) := Blk.cell hMS.c 3
    have s0 : yS.cell? ⟨y5.heap.size, 0, none⟩ = some (.int .i64 7) := Blk.cell hBS 0
    have s1 : yS.cell? ⟨y5.heap.size, 1, none⟩ = some (.int .i64 9) := Blk.cell hBS 1
    have HMS := Lib.hid hMS
    have HBS0 := Lib.hid hBS
    clear HM5 hyS gS hBS hMS
    go_wp2_with fail
    (with_reducible refine (AB _).mono ?_)
    rintro e y6 ⟨g, rfl, hbg, g6, lg⟩
    have HBS := Lib.hid (HBS0.out.kept g6 (by simp))
    have HM6 := Lib.hid (HMS.out.new g6)
    have HLG : Hid (w.heap.size + 1 + 1 < g) := Lib.hid (Nat.lt_of_lt_of_le (Blk.lt HMS.out.b) lg)
    have HBG := Lib.hid hbg
    clear HMS HBS0 g6 hbg lg AB k0 k1' k2' k3 s0 s1
    go_wp2_with fail
    (with_reducible refine (AH _).mono ?_)
    rintro e y7 ⟨h, rfl, hbh, g7, lh⟩
    have HLH : Hid (w.heap.size + 1 + 1 < h) := Lib.hid (Nat.lt_of_lt_of_le (Blk.lt HM6.out.b) lh)
    have HM7 := Lib.hid (HM6.out.new g7)
    have HBS7 := Lib.hid (HBS.out.kept g7 (by simp))
    have HBG7 := Lib.hid (HBG.out.kept g7 (by simp))
    have HBH7 := Lib.hid hbh
    clear HM6 g7 hbh HBG HBS lh AH
    go_upto_region 11 with (fail)
    obtain ⟨yT, hyT⟩ : ∃ yT, yT = y7.alloc (.cells #[.int .i64 (s : Int), .int .u32 (index : Int), .string ⟨PS.toArray⟩, .int .i64 7, .int .i64 9, .int .i64 (bst : Int)] 34) := ⟨_, rfl⟩
    rw [← hyT]
    have gT : y7.grownBy yT none := by rw [hyT]; exact World.grownBy_alloc y7 _ none
    have hBT : Blk yT y7.heap.size 34 [.int .i64 (s : Int), .int .u32 (index : Int), .string ⟨PS.toArray⟩, .int .i64 7, .int .i64 9, .int .i64 (bst : Int)] := by rw [hyT]; exact Blk.new y7 _ _
    have hMT := HM7.out.new gT
    have hsT := HBS7.out.kept gT (by simp)
    have t0 : yT.cell? ⟨y7.heap.size, 0, none⟩ = some (.int .i64 (s : Int)) := Blk.cell hBT 0
    have t1 : yT.cell? ⟨y7.heap.size, 1, none⟩ = some (.int .u32 (index : Int)) := Blk.cell hBT 1
    have t2 : yT.cell? ⟨y7.heap.size, 2, none⟩ = some (.string ⟨PS.toArray⟩) := Blk.cell hBT 2
    have t3 : yT.cell? ⟨y7.heap.size, 3, none⟩ = some (.int .i64 7) := Blk.cell hBT 3
    have t4 : yT.cell? ⟨y7.heap.size, 4, none⟩ = some (.int .i64 9) := Blk.cell hBT 4
    have t5 : yT.cell? ⟨y7.heap.size, 5, none⟩ = some (.int .i64 (bst : Int)) := Blk.cell hBT 5
    have k0 : yT.cell? ⟨w.heap.size, 0, none⟩ = some (.int .i64 (s : Int)) := Blk.cell hMT.c 0
    have k3 : yT.cell? ⟨w.heap.size, 3, none⟩ = some (.string ⟨psk.toArray⟩) := Blk.cell hMT.c 3
    have s0 : yT.cell? ⟨y5.heap.size, 0, none⟩ = some (.int .i64 7) := Blk.cell hsT 0
    have s1 : yT.cell? ⟨y5.heap.size, 1, none⟩ = some (.int .i64 9) := Blk.cell hsT 1
    have HMT := Lib.hid hMT
    have HBHT := Lib.hid (HBH7.out.kept gT (by simp))
    have HBGT := Lib.hid (HBG7.out.kept gT (by simp))
    have A1 := AA yT h HBHT.out
    clear hyT gT hBT hMT hsT HM7 HBS7 HBG7 HBH7
    go_wp2_with fail
    (with_reducible refine A1.mono ?_)
    rintro e y8 ⟨rfl, g8⟩
    have hM8 := HMT.out.new g8
    have b0 : y8.cell? ⟨w.heap.size + 1 + 1, 0, none⟩ = some (.string ⟨#[]⟩) := Blk.cell hM8.b 0
    have b1 : y8.cell? ⟨w.heap.size + 1 + 1, 1, none⟩ = some (.string ⟨#[]⟩) := Blk.cell hM8.b 1
    have fb0 := Blk.frozen hM8.b 0
    have fb1 := Blk.frozen hM8.b 1
    have HM9 := Lib.hid ((hM8.setb 0 (.string ⟨k2.toArray⟩)).setb 1 (.string ⟨k1.toArray⟩))
    have gb := grow_setCell (grow_setCell (grow_refl y8 (some (w.heap.size + 1 + 1))) 0 (.string ⟨k2.toArray⟩)) 1 (.string ⟨k1.toArray⟩)
    have HBG9 := Lib.hid ((HBGT.out.kept g8 (by simp)).kept gb (fun e => by have := Option.some.inj e; have := HLG.out; omega))
    have HBH9 := Lib.hid ((HBHT.out.kept g8 (by simp)).kept gb (fun e => by have := Option.some.inj e; have := HLH.out; omega))
    have A2 := AF _ g HBG9.out
    clear A1 HMT g8 hM8 gb HBHT HBGT t0 t1 t2 t3 t4 t5 k0 k3 s0 s1
    go_wp2_with fail
    (with_reducible refine A2.mono ?_)
    rintro e y10 ⟨rfl, g10⟩
    have hM10 := HM9.out.new g10
    have a0 : y10.cell? ⟨w.heap.size + 1, 0, none⟩ = some (.string ⟨#[]⟩) := Blk.cell hM10.a 0
    have a1 : y10.cell? ⟨w.heap.size + 1, 1, none⟩ = some (.string ⟨#[]⟩) := Blk.cell hM10.a 1
    have fa0 := Blk.frozen hM10.a 0
    have fa1 := Blk.frozen hM10.a 1
    have HM11 := Lib.hid ((hM10.seta 0 (.string ⟨k1.toArray⟩)).seta 1 (.string ⟨k2.toArray⟩))
    have ga := grow_setCell (grow_setCell (grow_refl y10 (some (w.heap.size + 1))) 0 (.string ⟨k1.toArray⟩)) 1 (.string ⟨k2.toArray⟩)
    have HBG11 := Lib.hid ((HBG9.out.kept g10 (by simp)).kept ga (fun e => by have := Option.some.inj e; have := HLG.out; omega))
    have HBH11 := Lib.hid ((HBH9.out.kept g10 (by simp)).kept ga (fun e => by have := Option.some.inj e; have := HLH.out; omega))
    have A3 := AF _ g HBG11.out
    clear A2 HM9 g10 hM10 ga HBG9 HBH9 b0 b1 fb0 fb1
    go_wp2_with fail
    (with_reducible refine A3.mono ?_)
    rintro e y12 ⟨rfl, g12⟩
    have HM12 := Lib.hid (HM11.out.new g12)
    have HBH12 := Lib.hid (HBH11.out.kept g12 (by simp))
    clear A3 HM11 g12 HBG11 HBH11 a0 a1 fa0 fa1 AF
    go_upto_region 18 with (fail)
    obtain ⟨yU, hyU⟩ : ∃ yU, yU = y12.alloc (.cells #[.string ⟨k1.toArray⟩, .string ⟨k2.toArray⟩] 26) := ⟨_, rfl⟩
    rw [← hyU]
    have gU : y12.grownBy yU none := by rw [hyU]; exact World.grownBy_alloc y12 _ none
    have hBU : Blk yU y12.heap.size 26 [.string ⟨k1.toArray⟩, .string ⟨k2.toArray⟩] := by rw [hyU]; exact Blk.new y12 _ _
    have hMU := HM12.out.new gU
    have u0 : yU.cell? ⟨y12.heap.size, 0, none⟩ = some (.string ⟨k1.toArray⟩) := Blk.cell hBU 0
    have u1 : yU.cell? ⟨y12.heap.size, 1, none⟩ = some (.string ⟨k2.toArray⟩) := Blk.cell hBU 1
    have a0 : yU.cell? ⟨w.heap.size + 1, 0, none⟩ = some (.string ⟨k1.toArray⟩) := Blk.cell hMU.a 0
    have a1 : yU.cell? ⟨w.heap.size + 1, 1, none⟩ = some (.string ⟨k2.toArray⟩) := Blk.cell hMU.a 1
    have k3 : yU.cell? ⟨w.heap.size, 3, none⟩ = some (.string ⟨psk.toArray⟩) := Blk.cell hMU.c 3
    have HMU := Lib.hid hMU
    have HBHU := Lib.hid (HBH12.out.kept gU (by simp))
    have A4 := AA yU h HBHU.out
    clear hyU gU hBU hMU HM12 HBH12 HBHU AA
    go_wp2_with fail
    (with_reducible refine A4.mono ?_)
    rintro e y13 ⟨rfl, g13⟩
    have HM13 := Lib.hid (HMU.out.new g13)
    clear A4 HMU g13 u0 u1 a0 a1 k3
    go_upto_region 21 with (fail)
    obtain ⟨yV, hyV⟩ : ∃ yV, yV = y13.alloc (.cells #[.string ⟨k2.toArray⟩, .string ⟨k1.toArray⟩] 26) := ⟨_, rfl⟩
    rw [← hyV]
    have gV : y13.grownBy yV none := by rw [hyV]; exact World.grownBy_alloc y13 _ none
    have hBV : Blk yV y13.heap.size 26 [.string ⟨k2.toArray⟩, .string ⟨k1.toArray⟩] := by rw [hyV]; exact Blk.new y13 _ _
    have hMV := HM13.out.new gV
    have RV : MV w y13.heap.size yV (.string ⟨k1.toArray⟩) (.string ⟨k2.toArray⟩) := ⟨hMV.g, hMV.a, hMV.b, hBV, Blk.lt HM13.out.b⟩
    clear hyV gV hBV hMV HM13
    apply wp_some (fun W => MV w y13.heap.size W (.string ⟨k1.toArray⟩) (.string ⟨k2.toArray⟩))
    case h =>
      obtain ⟨m0, m1, m2, m3, m4, m5, m6, m7, m8, m9⟩ := RV.cells
      go_region_held3 (fun W => W.cell? ⟨w.heap.size + 1, 0, none⟩ = some (.string ⟨k1.toArray⟩) ∧ W.cell? ⟨w.heap.size + 1, 1, none⟩ = some (.string ⟨k2.toArray⟩) ∧ W.frozen? ⟨w.heap.size + 1, 0, none⟩ = false ∧ W.frozen? ⟨w.heap.size + 1, 1, none⟩ = false ∧ W.cell? ⟨w.heap.size + 1 + 1, 0, none⟩ = some (.string ⟨k2.toArray⟩) ∧ W.cell? ⟨w.heap.size + 1 + 1, 1, none⟩ = some (.string ⟨k1.toArray⟩) ∧ W.frozen? ⟨w.heap.size + 1 + 1, 0, none⟩ = false ∧ W.frozen? ⟨w.heap.size + 1 + 1, 1, none⟩ = false ∧ W.cell? ⟨y13.heap.size, 0, none⟩ = some (.string ⟨k2.toArray⟩) ∧ W.cell? ⟨y13.heap.size, 1, none⟩ = some (.string ⟨k1.toArray⟩)) (exact MV.cells (by repeat (first | exact RV | apply MV.drew | apply MV.seta | apply MV.setb))) (fail)
      all_goals exact ⟨rfl, rfl, by repeat (first | exact RV | apply MV.drew | apply MV.seta | apply MV.setb)⟩
    case k =>
      intro yW hW
      obtain ⟨a0, a1, _, _, b0, b1, _, _, _, _⟩ := hW.cells
      go_wp2_with fail
      refine bodyPost_ret (v := .tuple #[.string ⟨first.toArray⟩, .string ⟨second.toArray⟩, .agg #[.string ⟨k1.toArray⟩, .string ⟨k2.toArray⟩], .agg #[.string ⟨k2.toArray⟩, .string ⟨k1.toArray⟩], .bool true]) (by simp [results, Tryz.results6, go_sem, a0, a1, b0, b1]) rfl ?_
      exact ⟨rfl, hW.g⟩

end Go.Proofs.YtcmncdaojmkfgaaGreatDoor
