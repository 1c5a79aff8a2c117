/- A table of prefixes: All and Drop. -/
import Derived.Test.YtbkgfpebffmffaaPathsSet
import Derived.Test.YtbkgfpebffmffaaGrow
import Derived.Test.YtbkgfpebffmffaaDrawnTail
import Derived.RangeFuncBox
import Derived.Maps.AppendAt
namespace Go.Proofs.Ytbkgfpebffmffaa
open Go.RowKit
set_option linter.unusedVariables false
attribute [local go_sem] Oper.semAt_some

/-- A path's cells. -/
def pthC (x : Pf × Int) : List Value := [.int .u32 (addrP x.1 : Int), .int .i64 (x.1.length : Int), .int .i64 x.2]
/-- A slice of paths of the call's own. -/
def prow (w : World) (base : Nat) (v : Value) (l : List (Pf × Int)) : Prop := w.ownsRow base 34 3 v l.length (l.flatMap pthC)
theorem info_pth : (Try.prog.info? 34).map (fun i => (i.zero, i.size, i.bytes)) = some (some (.agg #[.int .u32 0, .int .i64 0, .int .i64 0]), 3, 24) := by kernel_rfl
theorem prow.kept {w w' : World} {base : Nat} {v : Value} {l : List (Pf × Int)} {r : Option Nat} (h : prow w base v l) (g : w.grownBy w' r) (hr : v.ownBlock = none ∨ v.ownBlock ≠ r) : prow w' base v l := World.ownsRow.kept h g hr
theorem prow_own {w : World} {base : Nat} {v : Value} {l : List (Pf × Int)} (h : prow w base v l) : ∀ k, v.ownBlock = some k → base ≤ k ∧ ∃ cs f, w.heap[k]? = some (.cells cs 34 f) := by
  intro k hk
  rcases h.2 with ⟨e, _⟩ | ⟨g, cap, cur, hv, hbg, hg, _⟩
  · rw [e] at hk; cases hk
  · rw [hv] at hk
    obtain rfl : g = k := by simpa [Value.ownBlock] using hk
    exact ⟨hbg, _, _, hg⟩

theorem cell_three (w : World) (u1 u2 u3 : Value) (t : TypeId) : ∀ (j : Nat) (v : Value), [u1, u2, u3][j]? = some v → (w.alloc (.cells #[u1, u2, u3] t)).cell? ((⟨w.heap.size, 0, none⟩ : Addr).add j) = some v := by
  intro j v hj
  have e : (⟨w.heap.size, 0, none⟩ : Addr).add j = ⟨w.heap.size, j, none⟩ := by unfold Addr.add; split <;> simp_all
  rw [e, obj_cell (obj_new w _)]
  match j, hj with
  | 0, hj => exact hj
  | 1, hj => exact hj
  | 2, hj => exact hj
theorem not_Pt {o : Obj} {cs : Array Value} {t : TypeId} {f : Nat × Nat} (h : o = .cells cs t f) (ht : t ≠ 25) : ¬ Pt o := by
  rintro ⟨x, y, e⟩
  rw [h] at e
  injection e with _ e _
  exact ht e
theorem Tree.keptT {w w' : World} {tb : Nat} {N : Pf → Option Nat} {M : Pf → Bool} {V : Pf → Int} {many : Nat} {r : Option Nat} (h : Tree w tb N M V many) (g : w.grownBy w' r) (hr : ∀ k, r = some k → ∀ o, w.heap[k]? = some o → ¬ IsN o) : Tree w' tb N M V many :=
  h.kept g (fun p b hb e => by
    obtain ⟨o, h1, h2⟩ := (h.blk p b hb).isN
    exact hr b e.symm o h1 h2)
theorem not_IsN {o : Obj} {cs : Array Value} {t : TypeId} {f : Nat × Nat} (h : o = .cells cs t f) (h1 : t ≠ 57) (h2 : t ≠ 55) : ¬ IsN o := by
  rintro ⟨c, f', e | e⟩
  · rw [h] at e
    injection e with _ e _
    exact h1 e
  · rw [h] at e
    injection e with _ e _
    exact h2 e
theorem IsN.not_cells {o : Obj} (h : IsN o) : o.isCells = true := by
  obtain ⟨c, f, rfl | rfl⟩ := h <;> rfl
theorem IsN.not_Pt {o : Obj} (h : IsN o) : ¬ Pt o := by
  rintro ⟨x, y, rfl⟩
  obtain ⟨c, f, e | e⟩ := h
  · injection e with _ e _; exact absurd e (by decide)
  · injection e with _ e _; exact absurd e (by decide)
theorem own_mem {M : Pf → Bool} {V : Pf → Int} {x : Pf × Int} (h : x ∈ allP (ownO M V)) : x.1.length ≤ 32 ∧ M x.1 = true ∧ V x.1 = x.2 := by
  obtain ⟨h1, h2⟩ := (allP_mem _ _).1 h
  unfold ownO at h2
  split at h2
  · rename_i hm; exact ⟨h1, hm, Option.some.inj h2⟩
  · cases h2

theorem pth_len (l : List (Pf × Int)) : (l.flatMap pthC).length = l.length * 3 := by
  induction l with
  | nil => rfl
  | cons x l ih => rw [List.flatMap_cons, List.length_append, ih, List.length_cons]; show 3 + _ = _; omega
theorem append_pth {w : World} {ops : Array Oper} {rest : List Oper} {o : Oper} {a : Act} {Q : Exit → Act → World → Prop} (hgd : o.guard = none) (s x : Operand)
    (ho : o.op = .call { callee := .builtin .append, args := #[s, x], argTypes := #[30, 30] })
    (base : Nat) (v : Value) (l : List (Pf × Int)) (hs : a.eval s = v) (hown : prow w base v l) (p : Pf × Int) (g : Nat) (hb : Blk w g 34 (pthC p))
    (hx : a.eval x = .slice (some ⟨g, 0, none⟩) 1 1) (hroom : (l.length + 1) * 24 ≤ 140737488355328) (hbase : base ≤ w.heap.size)
    (h : ∀ v' w', prow w' base v' (l ++ [p]) → w.grownBy w' v.ownBlock → wpList Try.prog ops Q rest (a.put o.dst v') w') : wpList Try.prog ops Q (o :: rest) a w := by
  obtain ⟨i0, hi, hz0, hz1, hz2⟩ := info_parts info_pth
  refine wpList_append_own _ hgd s x _ ho base 34 i0 _ 3 24 Try.underlying30 hi hz0 hz1 hz2 rfl (by decide) v l.length (l.flatMap pthC) hs hown ⟨g, 0, none⟩ 1 1 (pthC p) hx rfl (fun j u hj => ?_) (by simp [pthC, Value.oneCell']) (by unfold maxLen; omega) hroom hbase (fun v' w' h1 h2 _ => h v' w' ?_ h2)
  · have e : (⟨g, 0, none⟩ : Addr).add j = ⟨g, j, none⟩ := by unfold Addr.add; split <;> simp_all
    rw [e, hb.cell]
    exact hj
  · unfold prow
    rw [List.length_append, List.flatMap_append]
    simpa using h1
theorem prow_snoc {w : World} {base : Nat} {v : Value} {l : List (Pf × Int)} {p : Pf × Int} (h : prow w base v (l ++ [p])) : ∃ g cap, v = .slice (some ⟨g, 0, none⟩) (l.length + 1) cap := by
  unfold prow at h
  rw [List.length_append] at h
  exact ownsRow_succ h
theorem prow_cells {w : World} {base : Nat} {v : Value} {l : List (Pf × Int)} (h : prow w base v l) : ∀ k, v.ownBlock = some k → ∃ cs f, w.heap[k]? = some (.cells cs 34 f) := fun k e => (prow_own h k e).2
theorem keep_grown {W W' : World} {row : Option Nat} (hg : W.grownBy W' row) (hr : ∀ k, row = some k → ∀ o, W.heap[k]? = some o → o.isCells = true) : KeepsOthers W W' := KeepsOthers.of_grownBy hg (fun j o e h => hr j e o h)
theorem prow_other {w : World} {base k : Nat} {v : Value} {l : List (Pf × Int)} {c : Array Value} {t : TypeId} {fr : Nat × Nat} (h : prow w base v l) (hk : w.heap[k]? = some (.cells c t fr)) (ht : t ≠ 34) : v.ownBlock ≠ some k := by
  intro e
  obtain ⟨_, cs, f, h2⟩ := prow_own h k e
  rw [hk] at h2
  injection h2 with h2
  injection h2 with _ h2 _
  exact ht h2

theorem lenD8 {vs : List Value} (h : vs.length = 8) : ∃ v0 v1 v2 v3 v4 v5 v6 v7, vs = [v0, v1, v2, v3, v4, v5, v6, v7] := by
  match vs, h with
  | [v0, v1, v2, v3, v4, v5, v6, v7], _ => exact ⟨v0, v1, v2, v3, v4, v5, v6, v7, rfl⟩

set_option maxRecDepth 100000 in
set_option maxHeartbeats 4000000 in
theorem code_ptall (w : World) (B0 tb : Nat) (O : Own) (h : TB B0 w tb O) :
    Calls Try.prog 9 #[.pointer (some ⟨tb, 0, none⟩)] w fun e w' => ∃ v, e = .returned v ∧ prow w' w.heap.size v (allP O) ∧ w.grownBy w' none := by
  obtain ⟨N, M, V, T, hl, hO, hmx⟩ := h
  obtain ⟨i0, hi, hz0, hz1, hz2⟩ := info_parts info_pth
  have HL := Lib.hid hl
  have HO := Lib.hid hO
  clear hl hO
  refine (callsIn_wide (n := 1)).1 (callsIn_of_wp_marks Try.func9 rfl trivial ?_ rfl)
  simp only [Try.ntmps9, List.size_toArray, List.length_cons, List.length_nil, Nat.reduceAdd, Nat.reduceSub, Array.replicate_succ, Array.replicate_zero, List.push_toArray, List.append_toArray, List.nil_append, List.cons_append]
  refine wpIn_wide.2 ?_
  go_wp2_with fail
  have g0 := World.grownBy_alloc w (.cells #[.slice none 0 0] 30) none
  have c0 := Blk.new w 30 [.slice none 0 0]
  refine wp_rangeFunc_all (gf := 20) (la := #[.pointer (some ⟨tb, 0, none⟩)]) (lb := #[]) rfl (enters_of Try.func20 (by kernel_rfl) rfl) Pt.cells (code_pteach _ tb N M V _ (T.new g0)) (fun _ => rfl)
    (fun pre W => Tree W tb N M V (allP O).length ∧ (∃ v, Blk W w.heap.size 30 [v] ∧ prow W w.heap.size v pre) ∧ w.grownBy W none ∧ w.heap.size + 1 ≤ W.heap.size) ?own ?rel ?start
    (fun x a W => ∃ Bx, Blk W Bx 25 [.int .u32 (addrP x.1 : Int), .int .i64 (x.1.length : Int)] ∧ a = { tmps := #[.pointer (some ⟨tb, 0, none⟩), undef, .slice none 0 0, .pointer (some ⟨w.heap.size, 0, none⟩), .pointer (some ⟨Bx, 0, none⟩), ptrN (N x.1), .pointer (some ⟨tb, 0, none⟩), .func (.func 20) #[.pointer (some ⟨tb, 0, none⟩)] #[], Pv x.1, ptrN (N x.1), undef, undef, undef, undef, undef, undef, undef, undef, undef, undef], defers := [] }) ?ax ?assign ?body ?done
  case own =>
    rintro pre A B row ⟨hT, ⟨v, hv, hrow⟩, hg, hs⟩ hgr hr
    refine ⟨hT.keptT hgr (fun k e o ho hn => ?_), ⟨v, hv.kept hgr (fun e => ?_), hrow.kept hgr ?_⟩, ?_, Nat.le_trans hs hgr.size⟩
    · obtain ⟨_, o', h1, h2⟩ := hr k e
      rw [ho] at h1
      cases h1
      rcases h2 with h2 | h2
      · rw [hn.not_cells] at h2; cases h2
      · exact hn.not_Pt h2
    · obtain ⟨_, o', h1, h2⟩ := hr _ e.symm
      unfold Blk at hv
      rw [hv] at h1
      cases h1
      rcases h2 with h2 | h2
      · cases h2
      · exact not_Pt rfl (by decide) h2
    · rcases hk : v.ownBlock with _ | k
      · exact .inl rfl
      · refine .inr fun e => ?_
        obtain ⟨_, cs, f, h3⟩ := prow_own hrow k hk
        obtain ⟨_, o', h1, h2⟩ := hr _ e.symm
        rw [h3] at h1
        cases h1
        rcases h2 with h2 | h2
        · cases h2
        · exact not_Pt rfl (by decide) h2
    · rcases row with _ | k
      · exact grow_trans hg hgr
      · exact grow_trans_new hg hgr (by have := (hr k rfl).1; simp at this; omega)
  case rel =>
    rintro pre W ⟨hT, _, _, hs⟩
    exact ⟨⟨M, V, _, hT, fun _ _ => rfl⟩, by simpa using hs⟩
  case start => exact ⟨T.new g0, ⟨_, c0, World.ownsRow_nil _ _ _ _⟩, g0, by simp⟩
  case ax =>
    rintro x a W l o o' ⟨Bx, hb, rfl⟩ hl ho
    refine ⟨Bx, hb.kept (grownBy_putObj' W l o') (fun e => ?_), rfl⟩
    obtain rfl := Option.some.inj e
    unfold Blk at hb
    rw [hb] at hl
    cases hl
    cases ho
  case assign =>
    intro l pre x W K hi hK
    unfold Pv at hK ⊢
    gi_wp2_with fail
    exact hK _ _ (World.grownBy_alloc _ _ _) ⟨_, Blk.new _ _ _, rfl⟩
  case body =>
    rintro l pre px rest a1 W hL ⟨Bx, hB, rfl⟩ ⟨hT, ⟨v, hv, hrow⟩, hg0, hs⟩
    have hm : px ∈ allP (ownO M V) := by rw [hL]; simp
    obtain ⟨hx1, hx2, hx3⟩ := own_mem hm
    obtain ⟨b, hb⟩ : ∃ b, N px.1 = some b := by
      cases hz : N px.1 with
      | none => exact absurd hz (hT.mark _ hx2)
      | some b => exact ⟨b, rfl⟩
    have k3 := (hT.blk _ b hb).cells.2.2.2
    rw [hx3] at k3
    have p0 := hB.cell 0
    have p1 := hB.cell 1
    have hc := hv.cell 0
    have hlen : pre.length < 64 := by
      have := congrArg List.length hL
      rw [HO.out] at this
      simp at this
      omega
    rw [hb]
    unfold ptrN Pv
    simp only [Option.map_some]
    gi_wp2_with fail
    refine wp_drawn_round l (by kernel_rfl) (by kernel_rfl) ?_
    refine drawn_tail 8 [10, 11, 12, 13, 14, 15, 16, 17] [(PEq (v)), (PEq (.agg #[.int .u32 (addrP px.1 : Int), .int .i64 (px.1.length : Int)])), (PEq (.pointer (some ⟨b, 0, none⟩))), (PEq (.pointer (some ⟨b, 0, none⟩))), (PEq (.pointer (some ⟨b, 3, none⟩))), (PEq (.int .i64 px.2)), (PEq (.agg #[.int .u32 (addrP px.1 : Int), .int .i64 (px.1.length : Int), .int .i64 px.2])), (PBlk W.heap.size 34 (pthC px) (fun g => .slice (some ⟨g, 0, none⟩) 1 1))] (by kernel_rfl) (by kernel_rfl) (by kernel_rfl) (by kernel_rfl) (by decide) (by decide) (by rfl) ?_ ?_ ?_
    · exact ⟨mono_eq _, mono_eq _, mono_eq _, mono_eq _, mono_eq _, mono_eq _, mono_eq _, mono_blk (by simp) _ _ _, True.intro⟩
    · intro vs x hl hg
      obtain ⟨v0, v1, v2, v3, v4, v5, v6, v7, rfl⟩ := lenD8 hl
      simp only [layAll, Act.put, List.setIfInBounds_toArray, List.set_cons_succ, List.set_cons_zero]
      have q0 := (hB.kept hg (by simp)).cell 0
      have q1 := (hB.kept hg (by simp)).cell 1
      have q2 := (hv.kept hg (by simp)).cell 0
      have q3 := (hg.cell (a := ⟨b, 3, none⟩) k3 (by simp))
      clear p0 p1 hc k3 hT hrow hv hB hL hg0
      refine stepsL_cons (fun K hw hr hK => ?_) <| stepsL_cons (fun K hw hr hK => ?_) <| stepsL_cons (fun K hw hr hK => ?_) <| stepsL_cons (fun K hw hr hK => ?_) <| stepsL_cons (fun K hw hr hK => ?_) <| stepsL_cons (fun K hw hr hK => ?_) <| stepsL_cons (fun K hw hr hK => ?_) <| stepsL_cons (fun K hw hr hK => ?_) <| stepsL_nil
      · -- 0: load
        unfold Oper.wp
        go_simp
        exact hK _ _ rfl (grow_refl _ _)
      · -- 1: load
        unfold Oper.wp
        go_simp
        exact hK _ _ rfl (grow_refl _ _)
      · -- 2: move
        unfold Oper.wp
        go_simp
        exact hK _ _ rfl (grow_refl _ _)
      · -- 3: nilCheck
        have f2 : v2 = _ := hw 2 (by kernel_rfl)
        subst f2
        unfold Oper.wp
        go_simp
        exact hK _ _ rfl (grow_refl _ _)
      · -- 4: fieldAddr
        have f3 : v3 = _ := hw 3 (by kernel_rfl)
        subst f3
        unfold Oper.wp
        go_simp
        exact hK _ _ rfl (grow_refl _ _)
      · -- 5: load
        have f4 : v4 = _ := hw 4 (by kernel_rfl)
        subst f4
        unfold Oper.wp
        go_simp
        exact hK _ _ rfl (grow_refl _ _)
      · -- 6: build
        have f1 : v1 = _ := hw 1 (by kernel_rfl)
        subst f1
        have f5 : v5 = _ := hw 5 (by kernel_rfl)
        subst f5
        unfold Oper.wp
        go_simp
        exact hK _ _ rfl (grow_refl _ _)
      · -- 7: buildSlice
        have f6 : v6 = _ := hw 6 (by kernel_rfl)
        subst f6
        unfold Oper.wp
        go_simp
        exact hK _ _ ⟨_, rfl, hg.size, Blk.new _ _ _⟩ (World.grownBy_alloc _ _ _)
    · intro vs x hl hg hp
      obtain ⟨v0, v1, v2, v3, v4, v5, v6, v7, rfl⟩ := lenD8 hl
      have f0 : v0 = _ := hp 0 _ rfl
      have f1 : v1 = _ := hp 1 _ rfl
      have f2 : v2 = _ := hp 2 _ rfl
      have f3 : v3 = _ := hp 3 _ rfl
      have f4 : v4 = _ := hp 4 _ rfl
      have f5 : v5 = _ := hp 5 _ rfl
      have f6 : v6 = _ := hp 6 _ rfl
      obtain ⟨g7, f7, l7, b7⟩ := hp 7 _ rfl
      have f7 : v7 = _ := f7
      subst f0
      subst f1
      subst f2
      subst f3
      subst f4
      subst f5
      subst f6
      subst f7
      simp only [layAll, Act.put, List.setIfInBounds_toArray, List.set_cons_succ, List.set_cons_zero]
      simp only [List.drop_succ_cons, List.drop_zero]
      clear hp hl
      have hv1 := hv.kept hg (by simp)
      have hr1 := hrow.kept hg (by cases v0.ownBlock <;> simp)
      have hT1 := hT.new hg
      have hgw := grow_trans hg0 hg
      have hsx := hg.size
      have hnv := prow_other hr1 hv1 (by decide)
      clear hT hrow hv hc k3 p0 p1 hB
      refine append_pth rfl _ _ rfl w.heap.size v0 pre rfl hr1 px _ b7 rfl (by omega) (by omega) ?_
      intro v' w1 hr2 hg2
      have hv2 := hv1.kept hg2 (Ne.symm hnv)
      have hT2 := hT1.keptT hg2 (fun k e o ho => by
        obtain ⟨_, cs, f, h3⟩ := prow_own hr1 k e
        rw [h3] at ho
        cases ho
        exact not_IsN rfl (by decide) (by decide))
      have c1 := hv2.cell 0
      have cf := hv2.frozen 0
      have hnv2 := prow_other hr2 hv2 (by decide)
      obtain ⟨g', cap', rfl⟩ := prow_snoc hr2
      have g3 := grow_setCell (grow_refl w1 (some w.heap.size)) 0 (.slice (some ⟨g', 0, none⟩) (pre.length + 1) cap')
      have kp := prow_cells hr1
      have HF : Hid (KeepsFrom (w.alloc (.cells #[.slice none 0 0] 30)).heap.size W (w1.setCell ⟨w.heap.size, 0, none⟩ (.slice (some ⟨g', 0, none⟩) (pre.length + 1) cap')) ∧ KeepPt Pt W (w1.setCell ⟨w.heap.size, 0, none⟩ (.slice (some ⟨g', 0, none⟩) (pre.length + 1) cap')) ∧ Tree (w1.setCell ⟨w.heap.size, 0, none⟩ (.slice (some ⟨g', 0, none⟩) (pre.length + 1) cap')) tb N M V (allP O).length ∧ (∃ v, Blk (w1.setCell ⟨w.heap.size, 0, none⟩ (.slice (some ⟨g', 0, none⟩) (pre.length + 1) cap')) w.heap.size 30 [v] ∧ prow (w1.setCell ⟨w.heap.size, 0, none⟩ (.slice (some ⟨g', 0, none⟩) (pre.length + 1) cap')) w.heap.size v (pre ++ [px])) ∧ w.grownBy (w1.setCell ⟨w.heap.size, 0, none⟩ (.slice (some ⟨g', 0, none⟩) (pre.length + 1) cap')) none ∧ w.heap.size + 1 ≤ (w1.setCell ⟨w.heap.size, 0, none⟩ (.slice (some ⟨g', 0, none⟩) (pre.length + 1) cap')).heap.size) := by
        refine Lib.hid ⟨?_, ?_, ?_, ⟨_, hv2.set 0 _, hr2.kept g3 (.inr hnv2)⟩, ?_, ?_⟩
        · refine (((keep_grown hg (fun k e => by cases e)).trans (keep_grown hg2 (fun k e o ho => ?_))).trans (KeepsOthers.setCell _ _ _)).from _
          obtain ⟨cs, f, h3⟩ := kp k e
          rw [h3] at ho
          cases ho
          rfl
        · refine ((KeepPt.grown hg (fun r o e => by cases e)).trans (KeepPt.grown hg2 (fun k o e ho => ?_))).trans (KeepPt.grown g3 (fun k o e ho => ?_))
          · obtain ⟨cs, f, h3⟩ := kp k e
            rw [h3] at ho
            cases ho
            exact not_Pt rfl (by decide)
          · obtain rfl := Option.some.inj e
            unfold Blk at hv2
            rw [hv2] at ho
            cases ho
            exact not_Pt rfl (by decide)
        · exact hT2.keptT g3 (fun k e o ho => by
            obtain rfl := Option.some.inj e
            unfold Blk at hv2
            rw [hv2] at ho
            cases ho
            exact not_IsN rfl (by decide) (by decide))
        · refine grow_trans_new ?_ g3 (Nat.le_refl _)
          rcases hb0 : v0.ownBlock with _ | k
          · rw [hb0] at hg2; exact grow_trans hgw hg2
          · rw [hb0] at hg2; exact grow_trans_new hgw hg2 (prow_own hr1 k hb0).1
        · have := hg2.size
          have := g3.size
          omega
      clear hr1 hT1 hgw hv1 hr2 hv2 hT2 hnv hnv2 g3 kp hg2 hg hg0 hs
      go_wp2_with fail
      exact ⟨rfl, HF.out⟩
  case done =>
    rintro D W hD ⟨hT, ⟨v, hv, hrow⟩, hg, hs⟩ hK
    have hc := hv.cell 0
    rw [HO.out] at hrow
    have HR := Lib.hid (ownsRow_putObj hrow (.deferred none) hK rfl)
    have HG := Lib.hid (grow_trans_new hg (grownBy_putObj' W D (.deferred none)) (by simp at hD; omega))
    clear hT hrow hg hs hv
    go_wp2_with fail
    refine ⟨by simp, .inl ⟨_, _, rfl, run_takeDeferred hK, ?_⟩⟩
    exact ⟨_, results_tmp rfl _ _ _, v, rfl, HR.out, HG.out⟩

end Go.Proofs.Ytbkgfpebffmffaa
