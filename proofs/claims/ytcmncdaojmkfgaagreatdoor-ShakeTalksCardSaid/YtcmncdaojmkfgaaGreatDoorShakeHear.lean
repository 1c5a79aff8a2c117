/- Shake: Hear. -/
import Derived.Test.YtcmncdaojmkfgaaGreatDoorR42
import Derived.Test.YtcmncdaojmkfgaaGreatDoorStampRead
namespace Go.Proofs.YtcmncdaojmkfgaaGreatDoor
open Go.RowKit
set_option linter.unusedVariables false

def heardC (t : Met) : List Value := nstC t.s t.x5.h t.x5.c t.x5.k t.x5.n ++ [.int .i64 (t.s : Int), .int .u32 (t.index : Int), S t.PO, S t.PS]
def toldV (t : Met) : Value := .agg #[.int .i64 (t.s : Int), .int .u32 (t.index : Int), S t.PS, .int .i64 7, .int .i64 9, .int .i64 (t.best : Int)]
def HeardTo (w : World) (t : Met) (e : Ending) (w' : World) : Prop :=
  ∃ g, e = .returned (.tuple #[toldV t, .pointer (some ⟨g, 0, none⟩), .int .i64 0]) ∧ Blk w' g 80 (heardC t) ∧ w.grownBy w' none ∧ w.heap.size ≤ g
theorem read_79 (w : World) : Calls Tryz.prog 25 #[S (stampB 7 9)] w (Grown (.tuple #[.agg #[.int .i64 7, .int .i64 9], .int .i64 0]) w) := by
  have lst : (stampB 7 9).length = 12 := by unfold stampB; rw [List.length_append, bigB_length, bigB_length]
  have h1 : stampSec (stampB 7 9) = 7 := by decide +kernel
  have h2 : stampNano (stampB 7 9) = 9 := by decide +kernel
  refine (stamp_read_12 w (stampB 7 9) lst).mono ?_
  rintro e y ⟨rfl, hg⟩
  rw [h1, h2, if_pos (by rfl)]
  unfold t1
  rw [h1, h2]
  exact ⟨rfl, hg⟩

theorem lenD18 {vs : List Value} (h : vs.length = 18) : ∃ v0 v1 v2 v3 v4 v5 v6 v7 v8 v9 v10 v11 v12 v13 v14 v15 v16 v17, vs = [v0, v1, v2, v3, v4, v5, v6, v7, v8, v9, v10, v11, v12, v13, v14, v15, v16, v17] := by
  match vs, h with
  | [v0, v1, v2, v3, v4, v5, v6, v7, v8, v9, v10, v11, v12, v13, v14, v15, v16, v17], _ => exact ⟨v0, v1, v2, v3, v4, v5, v6, v7, v8, v9, v10, v11, v12, v13, v14, v15, v16, v17, rfl⟩

set_option maxRecDepth 20000 in
set_option maxHeartbeats 8000000 in
theorem code_shear (w : World) (t : Met) (o : t.ok) : Calls Tryz.prog 8 #[S t.prv, S t.first] w (HeardTo w t) := by
  have lPP : t.PP.length = 32 := multL_length _ _
  have lPO : t.PO.length = 32 := multL_length _ _
  have lPS : t.PS.length = 32 := multL_length _ _
  have AK : ∀ W : World, Calls Tryz.prog 19 #[.slice (some ⟨W.heap.size, 0, none⟩) 1 1] (W.alloc (.cells #[S t.prv] 9)) (fun e w' => e = .returned (.bool true) ∧ (W.alloc (.cells #[S t.prv] 9)) = w') := fun W =>
    code_iskey _ W.heap.size 1 [t.prv] rfl (by omega) (fun i hi => by
      rw [obj_cell (obj_new W _)]
      have h4 : i = 0 := by simp at hi; omega
      rcases h4 with rfl
      rfl) (fun x hx => by
      simp only [List.mem_cons, List.not_mem_nil, or_false] at hx
      rcases hx with rfl
      exact o.prv)
  have AF : ∀ W : World, Calls Tryz.prog 20 #[S t.first, .int .i64 115, .int .u8 1] W (fun e w' => e = .returned (.int .i64 0) ∧ W = w') := fun W => code_sform W t.first 1 t.s 115 o.s _ t.first_head o.first_length (by omega)
  have AP : ∀ W : World, Calls Tryz.prog 13 #[S t.prv] W (Grown (.tuple #[S t.PP, .int .i64 0]) W) := fun W => code_cpublic W t.prv o.prv
  have AB : ∀ W : World, Calls Tryz.prog 21 #[.int .i64 (t.s : Int), S t.PP] W (fun e w' => ∃ m b, e = .returned (.pointer (some ⟨m, 0, none⟩)) ∧ Mx W w' m b t.s t.x0) := fun W => code_sbegun W t.s o.s t.PP (by omega)
  have C1 : ∀ (w0 W : World) (m b : Nat), Mx w0 W m b t.s t.x0 → Calls Tryz.prog 22 #[.pointer (some ⟨m, 0, none⟩), S t.PO] W (MxTo w0 m b t.s (.tuple #[]) t.x1) := fun w0 W m b h => code_sboth w0 W m b t.s o.s t.x0 o.o0 t.PO (by omega) h
  have C2 : ∀ (w0 W : World) (m b : Nat), Mx w0 W m b t.s t.x1 → Calls Tryz.prog 23 #[.pointer (some ⟨m, 0, none⟩), S t.prv, S t.PO] W (MxTo w0 m b t.s (.tuple #[]) t.x2) := fun w0 W m b h => by
    have := code_ssecret w0 W m b t.s o.s t.x1 o.o1 t.prv t.PO o.prv lPO (by rw [o.same1]; exact o.nz1) h
    rwa [o.same1] at this
  have C3 : ∀ (w0 W : World) (m b : Nat), Mx w0 W m b t.s t.x2 → Calls Tryz.prog 24 #[.pointer (some ⟨m, 0, none⟩), S t.a] W (MxTo w0 m b t.s (S t.PS) t.x3) := fun w0 W m b h => code_sopen w0 W m b t.s o.s t.x2 o.o2.1 o.o2.2 t.PS (by omega) h
  have C4 : ∀ (w0 W : World) (m b : Nat), Mx w0 W m b t.s t.x3 → Calls Tryz.prog 23 #[.pointer (some ⟨m, 0, none⟩), S t.prv, S t.PS] W (MxTo w0 m b t.s (.tuple #[]) t.x4) := fun w0 W m b h => by
    have := code_ssecret w0 W m b t.s o.s t.x3 o.o3.1 t.prv t.PS o.prv lPS (by rw [o.same2]; exact o.nz2) h
    rwa [o.same2] at this
  have C5 : ∀ (w0 W : World) (m b : Nat), Mx w0 W m b t.s t.x4 → Calls Tryz.prog 24 #[.pointer (some ⟨m, 0, none⟩), S t.b] W (MxTo w0 m b t.s (S t.rest) t.x5) := fun w0 W m b h => code_sopen w0 W m b t.s o.s t.x4 o.o4.1 o.o4.2 t.rest (by rw [t.rest_length]; omega) h
  have AR := fun W : World => read_79 W
  have AI2 := fun W : World => code_issuite W t.best o.best
  have AL : ∀ W : World, Calls Tryz.prog 27 #[S (leB t.index 4)] W fun e w' => e = .returned (.int .u64 (t.index : Int)) ∧ W = w' := fun W => by
    have := wire_little W (leB t.index 4) (by rw [leB_length]; omega)
    rwa [List.take_of_length_le (by rw [leB_length]; omega), num_back o.index] at this
  have us : IntKind.u8.wrap (t.s : Int) = (t.s : Int) := IntWalk.u8_in _ (by rcases o.s with e | e <;> omega)
  have cb : ((UInt8.ofNat t.best).toNat : Int) = (t.best : Int) := by rcases o.best with e | e <;> rw [e] <;> rfl
  have cs : ((UInt8.ofNat t.s).toNat : Int) = (t.s : Int) := by rcases o.s with e | e <;> rw [e] <;> rfl
  have w64 : IntKind.i64.wrap (t.s : Int) = (t.s : Int) := IntWalk.i64_in _ (by rcases o.s with e | e <;> omega)
  have ms : (t.s : Int) % 256 = (t.s : Int) := by rcases o.s with e | e <;> omega
  have mb : (t.best : Int) % 256 = (t.best : Int) := by rcases o.best with e | e <;> omega
  have ui : IntKind.u32.wrap (t.index : Int) = (t.index : Int) := IntWalk.u32_in _ (by have := o.index; omega)
  have hl := o.first_length
  have h2 := o.first2
  have h6 := o.first6
  have h38 := o.first38
  have h86 := o.first86
  have hh := t.first_head
  obtain ⟨r12, r13⟩ := rest_12 t
  have lr := t.rest_length
  have hhc : heardC t = nstC t.s t.x5.h t.x5.c t.x5.k t.x5.n ++ [.int .i64 (t.s : Int), .int .u32 (t.index : Int), S t.PO, S t.PS] := rfl
  have htv : toldV t = .agg #[.int .i64 (t.s : Int), .int .u32 (t.index : Int), S t.PS, .int .i64 7, .int .i64 9, .int .i64 (t.best : Int)] := rfl
  have i1 : (1 : Int) < (t.first.length : Int) := by omega
  have i2 : (38 : Int) ≤ (t.first.length : Int) := by omega
  have i3 : (86 : Int) ≤ (t.first.length : Int) := by omega
  have i4 : (6 : Int) ≤ (t.first.length : Int) := by omega
  have i5 : (12 : Int) < (t.rest.length : Int) := by omega
  have i6 : (12 : Int) ≤ (t.rest.length : Int) := by omega
  have n1 : t.first[1]? = some (UInt8.ofNat t.s) := by rw [hh]; rfl
  have n12 : t.rest[12]? = some (UInt8.ofNat t.best) := by
    have h := congrArg (fun l => l[0]?) r13
    simp only [List.getElem?_drop] at h
    exact h
  have r2 := rule_ext
  unfold HeardTo
  unfold MxTo at C1 C2 C3 C4 C5
  rw [htv, hhc]
  clear hh htv hhc r13
  generalize t.first = first at *
  generalize t.rest = rest at *
  generalize t.x0 = x0 at *
  generalize t.x1 = x1 at *
  generalize t.x2 = x2 at *
  generalize t.x3 = x3 at *
  generalize t.x4 = x4 at *
  generalize t.x5 = x5 at *
  generalize t.PO = PO at *
  generalize t.PS = PS at *
  generalize t.PP = PP at *
  generalize t.a = va at *
  generalize t.b = vb at *
  generalize stampB 7 9 = st at *
  generalize leB t.index 4 = ix at *
  generalize t.prv = prv at *
  generalize t.s = s at *
  generalize t.best = best at *
  generalize t.index = index at *
  have e1 : (ByteArray.mk first.toArray)[1]'(by simp [ByteArray.size]; omega) = UInt8.ofNat s := by
    have : first[1]'(by omega) = UInt8.ofNat s := by rw [List.getElem?_eq_getElem (by omega)] at n1; exact Option.some.inj n1
    exact this
  have e12 : (ByteArray.mk rest.toArray)[12]'(by simp [ByteArray.size]; omega) = UInt8.ofNat best := by
    have : rest[12]'(by omega) = UInt8.ofNat best := by rw [List.getElem?_eq_getElem (by omega)] at n12; exact Option.some.inj n12
    exact this
  clear o n1 n12
  unfold S at *
  go_enter Tryz.func8, Tryz.ntmps8
  have HT0 : Blk (w.alloc (.cells #[.int .i64 0, .int .u32 0, .string ⟨#[]⟩, .int .i64 0, .int .i64 0, .int .i64 0] 34)) w.heap.size 34 [.int .i64 0, .int .u32 0, .string ⟨#[]⟩, .int .i64 0, .int .i64 0, .int .i64 0] := Blk.new w _ _
  have HG0 := Lib.hid (World.grownBy_alloc w (.cells #[.int .i64 0, .int .u32 0, .string ⟨#[]⟩, .int .i64 0, .int .i64 0, .int .i64 0] 34) none)
  have HT0 := Lib.hid HT0
  have AK1 := AK (w.alloc (.cells #[.int .i64 0, .int .u32 0, .string ⟨#[]⟩, .int .i64 0, .int .i64 0, .int .i64 0] 34))
  rw [World.size_alloc] at AK1
  go_wp2_with fail
  (with_reducible refine AK1.mono ?_)
  rintro e y1 ⟨rfl, h1⟩
  have g1 : (w.alloc (.cells #[.int .i64 0, .int .u32 0, .string ⟨#[]⟩, .int .i64 0, .int .i64 0, .int .i64 0] 34)).grownBy y1 none := by rw [← h1]; exact World.grownBy_alloc _ _ none
  have HT1 := Lib.hid (HT0.out.kept g1 (by simp))
  have HG1 := Lib.hid (grow_trans HG0.out g1)
  clear h1 g1 HT0 HG0 AK1
  go_wp2_with fail
  (with_reducible refine (AF _).mono ?_)
  rintro e z ⟨rfl, rfl⟩
  go_wp2_with fail
  (with_reducible refine (AP _).mono ?_)
  rintro e y2 ⟨rfl, g2⟩
  have HT2 := Lib.hid (HT1.out.kept g2 (by simp))
  have HG2 := Lib.hid (grow_trans HG1.out g2)
  clear g2 HT1 HG1
  go_wp2_with fail
  (with_reducible refine (AB _).mono ?_)
  rintro e y3 ⟨m, b, rfl, h3⟩
  have B1 := C1 _ _ _ _ h3
  clear h3 AK AF AP AB C1
  go_wp2_with fail
  (with_reducible refine B1.mono ?_)
  rintro e y4 ⟨rfl, h4⟩
  have B2 := C2 _ _ _ _ h4
  clear h4 B1 C2
  go_wp2_with fail
  (with_reducible refine B2.mono ?_)
  rintro e y5 ⟨rfl, h5⟩
  have B3 := C3 _ _ _ _ h5
  clear h5 B2 C3
  go_wp2_with fail
  (with_reducible refine B3.mono ?_)
  rintro e y6 ⟨rfl, h6⟩
  have B4 := C4 _ _ _ _ h6
  clear h6 B3 C4
  go_wp2_with fail
  (with_reducible refine B4.mono ?_)
  rintro e y7 ⟨rfl, h7⟩
  have B5 := C5 _ _ _ _ h7
  clear h7 B4 C5
  go_wp2_with fail
  (with_reducible refine B5.mono ?_)
  rintro e y8 ⟨rfl, h8⟩
  obtain ⟨c0, c1, _⟩ := h8.cells
  have H8 := Lib.hid h8
  clear h8 B5
  go_wp2_with fail
  (with_reducible refine (AR _).mono ?_)
  rintro e y9 ⟨rfl, g9⟩
  have H9 := Lib.hid (H8.out.new g9)
  clear g9 H8 c0 c1 AR
  go_wp2_with fail
  (with_reducible refine (AI2 _).mono ?_)
  rintro e z ⟨rfl, rfl⟩
  go_upto_region 21 with (fail)
  obtain ⟨yB, hyB⟩ : ∃ yB, yB = y9.alloc (.cells #[.int .i64 7, .int .i64 9] 32) := ⟨_, rfl⟩
  rw [← hyB]
  have hsB : Blk yB y9.heap.size 32 [.int .i64 7, .int .i64 9] := by rw [hyB]; exact Blk.new y9 _ _
  have gB : y9.grownBy yB none := by rw [hyB]; exact World.grownBy_alloc y9 _ none
  have HB := Lib.hid (H9.out.new gB)
  have SB : ∀ W : World, yB.grownBy W none → W.cell? ⟨y9.heap.size, 0, none⟩ = some (.int .i64 7) ∧ W.cell? ⟨y9.heap.size, 1, none⟩ = some (.int .i64 9) := fun W g => ⟨Blk.cell (hsB.kept g (by simp)) 0, Blk.cell (hsB.kept g (by simp)) 1⟩
  clear gB hyB H9 AI2
  apply wp_one
  case h =>
    go_region_held3 (fun W => W.cell? ⟨y9.heap.size, 0, none⟩ = some (.int .i64 7) ∧ W.cell? ⟨y9.heap.size, 1, none⟩ = some (.int .i64 9)) (exact SB _ (by repeat (first | exact grow_refl _ _ | apply grow_drew | apply grow_alloc))) (first
    | (go_at_call 27; (with_reducible refine (AL _).mono ?_); rintro e z ⟨rfl, rfl⟩))
    all_goals exact ⟨rfl, rfl, rfl⟩
  case k =>
    obtain ⟨yC, hyC⟩ : ∃ yC, yC = (yB.alloc (.cells #[.int .i64 (s : Int), .int .u32 (index : Int), .string ⟨PS.toArray⟩, .int .i64 7, .int .i64 9, .int .i64 (best : Int)] 34)).drew := ⟨_, rfl⟩
    rw [← hyC]
    have htC : Blk yC yB.heap.size 34 [.int .i64 (s : Int), .int .u32 (index : Int), .string ⟨PS.toArray⟩, .int .i64 7, .int .i64 9, .int .i64 (best : Int)] := by rw [hyC]; exact Blk.drew (Blk.new yB _ _)
    have gC : yB.grownBy yC none := by rw [hyC]; exact grow_drew (World.grownBy_alloc yB _ none)
    have hC := HB.out.new gC
    have HTC := Lib.hid (HT2.out.kept hC.g (by simp))
    have lt2 : w.heap.size < y2.heap.size := Blk.lt HT2.out
    have ltC : w.heap.size < yC.heap.size := Blk.lt HTC.out
    have ltB : w.heap.size < yB.heap.size := by have := HB.out.g.size; omega
    have SK : ∀ W : World, yC.grownBy W (some w.heap.size) → Blk W yB.heap.size 34 [.int .i64 (s : Int), .int .u32 (index : Int), .string ⟨PS.toArray⟩, .int .i64 7, .int .i64 9, .int .i64 (best : Int)] ∧ MxAt W m b ∧ NAt W b s x5 := fun W g =>
      ⟨htC.kept g (by simp; omega), Blk.kept hC.mx g (by have := hC.lm; simp; omega), hC.st.kept g (by have := hC.lb; simp; omega)⟩
    have HC := Lib.hid hC
    clear hyC gC hC htC SB hsB HB
    go_upto_region 22 with (fail)
    refine drawn_region (some w.heap.size) 15 (fun x => Blk x w.heap.size 34 [.int .i64 0, .int .u32 0, .string ⟨#[]⟩, .int .i64 0, .int .i64 0, .int .i64 0]) [115, 116, 117, 118, 119, 120, 121, 122, 123, 124, 125, 126, 127, 128, 129, 100015, 5, 6] [(PEq (.agg #[.int .i64 (s : Int), .int .u32 (index : Int), .string ⟨PS.toArray⟩, .int .i64 7, .int .i64 9, .int .i64 (best : Int)])), (PEq (.pointer (some ⟨m, 0, none⟩))), (PEq (.pointer (some ⟨m, 0, none⟩))), (PEq (.pointer (some ⟨m, 0, none⟩))), (PEq (.pointer (some ⟨b, 0, none⟩))), (PEq (.pointer (some ⟨b, 0, none⟩))), (PEq (.agg #[suV s, .string ⟨x5.h.toArray⟩, .string ⟨x5.c.toArray⟩, .string ⟨x5.k.toArray⟩, .int .u64 (x5.n : Int)])), (PEq (.pointer (some ⟨yB.heap.size, 0, none⟩))), (PEq (.int .i64 (s : Int))), (PEq (.pointer (some ⟨yB.heap.size, 1, none⟩))), (PEq (.int .u32 (index : Int))), (PEq (.string ⟨PO.toArray⟩)), (PEq (.string ⟨PS.toArray⟩)), (PEq (.agg #[suV s, .string ⟨x5.h.toArray⟩, .string ⟨x5.c.toArray⟩, .string ⟨x5.k.toArray⟩, .int .u64 (x5.n : Int), .int .i64 (s : Int), .int .u32 (index : Int), .string ⟨PO.toArray⟩, .string ⟨PS.toArray⟩])), (PBlk yC.heap.size 80 [suV s, .string ⟨x5.h.toArray⟩, .string ⟨x5.c.toArray⟩, .string ⟨x5.k.toArray⟩, .int .u64 (x5.n : Int), .int .i64 (s : Int), .int .u32 (index : Int), .string ⟨PO.toArray⟩, .string ⟨PS.toArray⟩] (fun g => .pointer (some ⟨g, 0, none⟩))), (PKept w.heap.size 34 [.int .i64 (s : Int), .int .u32 (index : Int), .string ⟨PS.toArray⟩, .int .i64 7, .int .i64 9, .int .i64 (best : Int)]), (PBlk yC.heap.size 80 [suV s, .string ⟨x5.h.toArray⟩, .string ⟨x5.c.toArray⟩, .string ⟨x5.k.toArray⟩, .int .u64 (x5.n : Int), .int .i64 (s : Int), .int .u32 (index : Int), .string ⟨PO.toArray⟩, .string ⟨PS.toArray⟩] (fun g => .pointer (some ⟨g, 0, none⟩))), (PEq (.int .i64 0))] follows_mixedD (by kernel_rfl) (by kernel_rfl) (by decide) (by rfl) (HTC.out) (fun x y h g => Blk.kept h g (by simp)) ?_ ?_ ?_
    · exact ⟨mono_eq _, mono_eq _, mono_eq _, mono_eq _, mono_eq _, mono_eq _, mono_eq _, mono_eq _, mono_eq _, mono_eq _, mono_eq _, mono_eq _, mono_eq _, mono_eq _, mono_blk (fun B e => by simp at e; omega) _ _ _, mono_kept _ _ _, mono_blk (fun B e => by simp at e; omega) _ _ _, mono_eq _, True.intro⟩
    · intro vs x hl hg
      obtain ⟨v0, v1, v2, v3, v4, v5, v6, v7, v8, v9, v10, v11, v12, v13, v14, v15, v16, v17, rfl⟩ := lenD18 hl
      simp only [layAll, Act.put, List.setIfInBounds_toArray, List.set_cons_succ, List.set_cons_zero]
      obtain ⟨ht, hm, hs⟩ := SK x hg
      have t0 := Blk.cell ht 0
      have t1 := Blk.cell ht 1
      have t2 := Blk.cell ht 2
      have t3 := Blk.cell ht 3
      have t4 := Blk.cell ht 4
      have t5 := Blk.cell ht 5
      have e0 := Blk.cell hm 0
      obtain ⟨s0, s1, s2, s3, s4⟩ := NSt.cells hs
      unfold S at s1 s2 s3
      clear ht hm hs
      refine stepsL_cons (fun K hw hr hK => ?_) <| stepsL_cons (fun K hw hr hK => ?_) <| stepsL_cons (fun K hw hr hK => ?_) <| stepsL_cons (fun K hw hr hK => ?_) <| stepsL_cons (fun K hw hr hK => ?_) <| stepsL_cons (fun K hw hr hK => ?_) <| stepsL_cons (fun K hw hr hK => ?_) <| stepsL_cons (fun K hw hr hK => ?_) <| stepsL_cons (fun K hw hr hK => ?_) <| stepsL_cons (fun K hw hr hK => ?_) <| stepsL_cons (fun K hw hr hK => ?_) <| stepsL_cons (fun K hw hr hK => ?_) <| stepsL_cons (fun K hw hr hK => ?_) <| stepsL_cons (fun K hw hr hK => ?_) <| stepsL_cons (fun K hw hr hK => ?_) <| stepsL_cons (fun K hw hr hK => ?_) <| stepsL_cons (fun K hw hr hK => ?_) <| stepsL_cons (fun K hw hr hK => ?_) <| stepsL_nil
      · -- 0: load
        unfold Oper.wp
        go_simp
        exact hK _ _ rfl (grow_refl _ _)
      · -- 1: move
        unfold Oper.wp
        go_simp
        exact hK _ _ rfl (grow_refl _ _)
      · -- 2: nilCheck
        have f1 : v1 = _ := hw 1 (by kernel_rfl)
        subst f1
        unfold Oper.wp
        go_simp
        exact hK _ _ rfl (grow_refl _ _)
      · -- 3: fieldAddr
        have f2 : v2 = _ := hw 2 (by kernel_rfl)
        subst f2
        unfold Oper.wp
        go_simp
        exact hK _ _ rfl (grow_refl _ _)
      · -- 4: load
        have f3 : v3 = _ := hw 3 (by kernel_rfl)
        subst f3
        unfold Oper.wp
        go_simp
        exact hK _ _ rfl (grow_refl _ _)
      · -- 5: nilCheck
        have f4 : v4 = _ := hw 4 (by kernel_rfl)
        subst f4
        unfold Oper.wp
        go_simp
        exact hK _ _ rfl (grow_refl _ _)
      · -- 6: load
        have f5 : v5 = _ := hw 5 (by kernel_rfl)
        subst f5
        unfold Oper.wp
        go_simp
        exact hK _ _ rfl (grow_refl _ _)
      · -- 7: fieldAddr
        unfold Oper.wp
        go_simp
        exact hK _ _ rfl (grow_refl _ _)
      · -- 8: load
        have f7 : v7 = _ := hw 7 (by kernel_rfl)
        subst f7
        unfold Oper.wp
        go_simp
        exact hK _ _ rfl (grow_refl _ _)
      · -- 9: fieldAddr
        unfold Oper.wp
        go_simp
        exact hK _ _ rfl (grow_refl _ _)
      · -- 10: load
        have f9 : v9 = _ := hw 9 (by kernel_rfl)
        subst f9
        unfold Oper.wp
        go_simp
        exact hK _ _ rfl (grow_refl _ _)
      · -- 11: move
        unfold Oper.wp
        go_simp
        exact hK _ _ rfl (grow_refl _ _)
      · -- 12: move
        unfold Oper.wp
        go_simp
        exact hK _ _ rfl (grow_refl _ _)
      · -- 13: build
        have f6 : v6 = _ := hw 6 (by kernel_rfl)
        subst f6
        have f8 : v8 = _ := hw 8 (by kernel_rfl)
        subst f8
        have f10 : v10 = _ := hw 10 (by kernel_rfl)
        subst f10
        have f11 : v11 = _ := hw 11 (by kernel_rfl)
        subst f11
        have f12 : v12 = _ := hw 12 (by kernel_rfl)
        subst f12
        unfold Oper.wp
        go_simp
        exact hK _ _ rfl (grow_refl _ _)
      · -- 14: box
        have f13 : v13 = _ := hw 13 (by kernel_rfl)
        subst f13
        unfold Oper.wp
        go_simp
        exact hK _ _ ⟨x.heap.size, rfl, hg.size, Blk.new x _ _⟩ (World.grownBy_alloc x _ none)
      · -- 15: store
        have f0 : v0 = _ := hw 0 (by kernel_rfl)
        subst f0
        have hB := hr (Or.inl rfl)
        have z0 := Blk.cell hB 0
        have z1 := Blk.cell hB 1
        have z2 := Blk.cell hB 2
        have z3 := Blk.cell hB 3
        have z4 := Blk.cell hB 4
        have z5 := Blk.cell hB 5
        have q0 := Blk.frozen hB 0
        have q1 := Blk.frozen hB 1
        have q2 := Blk.frozen hB 2
        have q3 := Blk.frozen hB 3
        have q4 := Blk.frozen hB 4
        have q5 := Blk.frozen hB 5
        unfold Oper.wp
        go_simp
        exact hK undef _ ((((((hB.set 0 _).set 1 _).set 2 _).set 3 _).set 4 _).set 5 _) (by rw [if_pos rfl]; exact grow_setCell (grow_setCell (grow_setCell (grow_setCell (grow_setCell (grow_setCell (grow_refl _ _) 0 _) 1 _) 2 _) 3 _) 4 _) 5 _)
      · -- 16: assign
        obtain ⟨g14, f14, l14, b14⟩ := hw 14 (by kernel_rfl)
        have f14 : v14 = _ := f14
        subst f14
        unfold Oper.wp
        go_simp
        exact hK _ _ ⟨g14, rfl, l14, b14⟩ (grow_refl _ _)
      · -- 17: assign
        unfold Oper.wp
        go_simp
        exact hK _ _ rfl (grow_refl _ _)
    · intro vs x hl hg hp
      obtain ⟨v0, v1, v2, v3, v4, v5, v6, v7, v8, v9, v10, v11, v12, v13, v14, v15, v16, v17, rfl⟩ := lenD18 hl
      have f0 : v0 = _ := hp 0 _ rfl
      have f1 : v1 = _ := hp 1 _ rfl
      have f2 : v2 = _ := hp 2 _ rfl
      have f3 : v3 = _ := hp 3 _ rfl
      have f4 : v4 = _ := hp 4 _ rfl
      have f5 : v5 = _ := hp 5 _ rfl
      have f6 : v6 = _ := hp 6 _ rfl
      have f7 : v7 = _ := hp 7 _ rfl
      have f8 : v8 = _ := hp 8 _ rfl
      have f9 : v9 = _ := hp 9 _ rfl
      have f10 : v10 = _ := hp 10 _ rfl
      have f11 : v11 = _ := hp 11 _ rfl
      have f12 : v12 = _ := hp 12 _ rfl
      have f13 : v13 = _ := hp 13 _ rfl
      obtain ⟨g14, f14, l14, b14⟩ := hp 14 _ rfl
      have f14 : v14 = _ := f14
      have b15 := hp 15 _ rfl
      obtain ⟨g16, f16, l16, b16⟩ := hp 16 _ rfl
      have f16 : v16 = _ := f16
      have f17 : v17 = _ := hp 17 _ rfl
      subst f0
      subst f1
      subst f2
      subst f3
      subst f4
      subst f5
      subst f6
      subst f7
      subst f8
      subst f9
      subst f10
      subst f11
      subst f12
      subst f13
      subst f14
      subst f16
      subst f17
      simp only [layAll, Act.put, List.setIfInBounds_toArray, List.set_cons_succ, List.set_cons_zero]
      clear hp hl
      have t0 := Blk.cell b15 0
      have t1 := Blk.cell b15 1
      have t2 := Blk.cell b15 2
      have t3 := Blk.cell b15 3
      have t4 := Blk.cell b15 4
      have t5 := Blk.cell b15 5
      go_wp2_with fail
      refine bodyPost_ret (v := .tuple #[.agg #[.int .i64 (s : Int), .int .u32 (index : Int), .string ⟨PS.toArray⟩, .int .i64 7, .int .i64 9, .int .i64 (best : Int)], .pointer (some ⟨g16, 0, none⟩), .int .i64 0]) (by simp [results, Tryz.results8, go_sem, t0, t1, t2, t3, t4, t5]) rfl ?_
      exact ⟨g16, rfl, b16, grow_trans_new (grow_trans HG2.out HC.out.g) hg (Nat.le_refl _), by have := HC.out.g.size; omega⟩

end Go.Proofs.YtcmncdaojmkfgaaGreatDoor
