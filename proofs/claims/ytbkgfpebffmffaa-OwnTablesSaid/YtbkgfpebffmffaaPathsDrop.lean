/- A table of prefixes: Drop. -/
import Derived.Test.YtbkgfpebffmffaaPathsAll
namespace Go.Proofs.Ytbkgfpebffmffaa
open Go.RowKit
set_option linter.unusedVariables false
attribute [local go_sem] Oper.semAt_some

theorem GT.beyond {B0 : Nat} {w W W' : World} {row : Option Nat} (h : GT B0 w W) (g : W.grownBy W' row) (hr : ∀ k, row = some k → w.heap.size ≤ k) : GT B0 w W' :=
  ⟨g.os.trans h.os, g.tape.trans h.tape, g.output.trans h.output, Nat.le_trans h.size g.size,
    fun i h1 h2 => (g.block i (Nat.lt_of_lt_of_le h1 h.size) (fun e => by have := hr i e.symm; omega)).trans (h.low i h1 h2),
    fun i o h1 h2 => (g.block i (lt_of_obj (h.keep i o h1 h2)) (fun e => by have := hr i e.symm; have := lt_of_obj h1; omega)).trans (h.keep i o h1 h2)⟩
/-- Who is dropped of those that came. -/
def gone (peer : Int) (pre : List (Pf × Int)) (q : Pf) : Bool := pre.any fun x => x.1 == q && x.2 == peer
theorem gone_snoc (peer : Int) (pre : List (Pf × Int)) (x : Pf × Int) (q : Pf) : gone peer (pre ++ [x]) q = (gone peer pre q || (x.1 == q && x.2 == peer)) := by
  unfold gone
  rw [List.any_append]
  simp
theorem gone_other (peer : Int) {pre : List (Pf × Int)} {q : Pf} (h : ∀ x ∈ pre, x.1 ≠ q) : gone peer pre q = false := by
  unfold gone
  rw [List.any_eq_false]
  intro x hx
  simp [h x hx]
def kept (peer : Int) (pre : List (Pf × Int)) : Nat := (pre.filter fun x => x.2 == peer).length
theorem kept_snoc (peer : Int) (pre : List (Pf × Int)) (x : Pf × Int) : kept peer (pre ++ [x]) = kept peer pre + (if x.2 == peer then 1 else 0) := by
  unfold kept
  rw [List.filter_append, List.length_append]
  by_cases h : (x.2 == peer) = true
  · simp [h]
  · simp [h]
theorem kept_le (peer : Int) (pre : List (Pf × Int)) : kept peer pre ≤ pre.length := List.length_filter_le _ _
theorem drop_all (M : Pf → Bool) (V : Pf → Int) (M' : Pf → Bool) (peer : Int) (h : ∀ q, M' q = (M q && !gone peer (allP (ownO M V)) q)) (hlen : ∀ q, M q = true → q.length ≤ 32) : ownO M' V = dropO (ownO M V) peer := by
  funext q
  unfold dropO
  have e1 : ownO M' V q = if M' q then some (V q) else none := rfl
  have e2 : ownO M V q = if M q then some (V q) else none := rfl
  rw [e1, h q]
  cases hM : M q with
  | false => rw [e2, hM]; simp
  | true =>
    have hm : (q, V q) ∈ allP (ownO M V) := (allP_mem _ _).2 ⟨hlen q hM, by rw [e2, hM]; rfl⟩
    rw [e2, hM]
    by_cases hv : V q = peer
    · have : gone peer (allP (ownO M V)) q = true := by
        unfold gone
        rw [List.any_eq_true]
        exact ⟨_, hm, by simp [hv]⟩
      rw [this]
      simp [hv]
    · have : gone peer (allP (ownO M V)) q = false := by
        unfold gone
        rw [List.any_eq_false]
        intro x hx
        have h2 := ((allP_mem _ _).1 hx).2
        intro e
        simp only [Bool.and_eq_true, beq_iff_eq] at e
        rw [e.1, e2, hM] at h2
        simp at h2
        exact hv (h2.trans e.2)
      rw [this]
      simp [hv]
theorem drop_many (O : Own) (peer : Int) : (allP (dropO O peer)).length + kept peer (allP O) = (allP O).length := by
  rw [all_drop]
  unfold kept
  induction allP O with
  | nil => rfl
  | cons x l ih =>
    rw [List.filter_cons, List.filter_cons, List.length_cons]
    by_cases h : x.2 = peer
    · simp [h]; omega
    · simp [h]; omega

/-- A value in a block of its own. -/
def Box1 (W : World) (k : Nat) (v : Value) : Prop := ∃ t, t ≠ 57 ∧ t ≠ 55 ∧ W.heap[k]? = some (.cells #[v] t (0, 0))
theorem Box1.cell {W : World} {k : Nat} {v : Value} (h : Box1 W k v) : W.cell? ⟨k, 0, none⟩ = some v := by obtain ⟨t, _, _, h⟩ := h; rw [obj_cell h]; rfl
theorem Box1.kept {W W' : World} {k : Nat} {v : Value} {r : Option Nat} (h : Box1 W k v) (g : W.grownBy W' r) (hr : some k ≠ r) : Box1 W' k v := by obtain ⟨t, h1, h2, h⟩ := h; exact ⟨t, h1, h2, grow_obj g h hr⟩
theorem Box1.keptG {B0 : Nat} {W W' : World} {k : Nat} {v : Value} (h : Box1 W k v) (g : GT B0 W W') : Box1 W' k v := by
  obtain ⟨t, h1, h2, h⟩ := h
  exact ⟨t, h1, h2, g.keep _ _ h (not_IsN rfl h1 h2)⟩
theorem obj_new1 (w : World) (o1 o2 : Obj) : ((w.alloc o1).alloc o2).heap[w.heap.size + 1]? = some o2 := by
  have := obj_new (w.alloc o1) o2
  rwa [World.size_alloc] at this
theorem wp_named {P : Program} {c : Code} {Q : Exit → Act → World → Prop} {a : Act} {w : World} (h : ∀ W0, W0 = w → c.wp P Q a W0) : c.wp P Q a w := h _ rfl
theorem Tree.nodeBlk {w : World} {tb : Nat} {N : Pf → Option Nat} {M : Pf → Bool} {V : Pf → Int} {many : Nat} (T : Tree w tb N M V many) {p : Pf} {b : Nat} (hb : N p = some b) {k : Nat} {v : Value} (h : Box1 w k v) : k ≠ b := by
  rintro rfl
  obtain ⟨t, _, _, h⟩ := h
  have := T.blk p k hb
  unfold NodeIn nodeC Blk at this
  split at this
  · rw [h] at this; simp at this
  · rw [h] at this; simp at this



set_option maxRecDepth 100000 in
set_option maxHeartbeats 4000000 in
theorem code_ptdrop (w : World) (B0 tb : Nat) (O : Own) (h : TB B0 w tb O) (peer : Int) (hp : (Lit.int .i64 peer).wf = true) :
    Calls Try.prog 14 #[.pointer (some ⟨tb, 0, none⟩), .int .i64 peer] w fun e w' => e = .returned (.int .i64 (((allP O).length - (allP (dropO O peer)).length : Nat) : Int)) ∧ TB B0 w' tb (dropO O peer) ∧ GT B0 w w' := by
  have hsz := h.lt
  obtain ⟨N, M, V, T, hl, hO, hmx⟩ := h
  have HL := Lib.hid hl
  have HO := Lib.hid hO
  have hmany := T.many.1
  clear hl hO
  refine (callsIn_wide (n := 1)).1 (callsIn_of_wp_marks Try.func14 rfl trivial ?_ rfl)
  simp only [Try.ntmps14, List.size_toArray, List.length_cons, List.length_nil, Nat.reduceAdd, Nat.reduceSub, Array.replicate_succ, Array.replicate_zero, List.push_toArray, List.append_toArray, List.nil_append, List.cons_append]
  refine wpIn_wide.2 ?_
  go_wp2_with fail
  refine wp_named fun W0 hW0 => ?_
  have g0 : w.grownBy W0 none := by rw [hW0]; exact grow_alloc (World.grownBy_alloc w _ none) _
  have hb2 : Box1 W0 w.heap.size (.pointer (some ⟨tb, 0, none⟩)) := by rw [hW0]; refine ⟨_, ?_, ?_, obj_alloc (obj_new w _)⟩ <;> decide
  have hb3 : Box1 W0 (w.heap.size + 1) (.int .i64 peer) := by rw [hW0]; refine ⟨_, ?_, ?_, obj_new1 _ _ _⟩ <;> decide
  have hz0 : W0.heap.size = w.heap.size + 2 := by rw [hW0]; simp
  clear hW0
  refine wp_rangeFunc_all (gf := 20) (la := #[.pointer (some ⟨tb, 0, none⟩)]) (lb := #[]) rfl (enters_of Try.func20 (by kernel_rfl) rfl) Pt.cells (code_pteach _ tb N M V _ (T.new g0)) (fun _ => rfl)
    (fun pre W => ∃ M', Tree W tb N M' V ((allP O).length - kept peer pre) ∧ (∀ q, M' q = (M q && !gone peer pre q)) ∧ Box1 W w.heap.size (.pointer (some ⟨tb, 0, none⟩)) ∧ Box1 W (w.heap.size + 1) (.int .i64 peer) ∧ GT B0 w W ∧ w.heap.size + 2 ≤ W.heap.size) ?own ?rel ?start
    (fun x a W => a = { tmps := #[.pointer (some ⟨tb, 0, none⟩), .int .i64 peer, .pointer (some ⟨w.heap.size, 0, none⟩), .pointer (some ⟨w.heap.size + 1, 0, none⟩), .int .i64 0, .int .i64 ((allP O).length : Int), undef, ptrN (N x.1), .pointer (some ⟨tb, 0, none⟩), .pointer (some ⟨tb, 0, none⟩), .pointer (some ⟨tb, 4, none⟩), .int .i64 ((allP O).length : Int), .pointer (some ⟨tb, 0, none⟩), .func (.func 20) #[.pointer (some ⟨tb, 0, none⟩)] #[], Pv x.1, ptrN (N x.1), undef, undef, undef, undef, undef, undef, undef, undef, undef, undef, undef, undef, undef, undef, undef, undef, undef, undef, undef, undef, undef, undef], defers := [] }) ?ax ?assign ?body ?done
  case own =>
    rintro pre A B row ⟨M', hT, hM, hv2, hv3, hg, hs⟩ hgr hr
    refine ⟨M', hT.keptT hgr (fun k e o ho hn => ?_), hM, hv2.kept hgr (fun e => ?_), hv3.kept hgr (fun e => ?_), hg.beyond hgr (fun k e => by have := (hr k e).1; omega), Nat.le_trans hs hgr.size⟩
    · obtain ⟨_, o', h1, h2⟩ := hr k e
      rw [ho] at h1
      cases h1
      rcases h2 with h2 | h2
      · rw [hn.not_cells] at h2; cases h2
      · exact hn.not_Pt h2
    · have := (hr _ e.symm).1
      omega
    · have := (hr _ e.symm).1
      omega
  case rel =>
    rintro pre W ⟨M', hT, hM, _, _, _, hs⟩
    exact ⟨⟨M', V, _, hT, fun q hq => by rw [hM, gone_other peer hq]; simp⟩, by omega⟩
  case start => exact ⟨M, T.new g0, fun q => by simp [gone], hb2, hb3, GT.new g0, by omega⟩
  case ax => exact fun _ _ _ _ _ _ h _ _ => h
  case assign =>
    intro l pre px W K hi hK
    unfold Pv at hK ⊢
    gi_wp2_with fail
    exact hK _ _ (grow_refl _ _) rfl
  case body =>
    rintro l pre px rest a1 W hL rfl ⟨M', hT, hM, hv2, hv3, hg0, hs⟩
    have hm : px ∈ allP (ownO M V) := by rw [hL]; simp
    obtain ⟨hx1, hx2, hx3⟩ := own_mem hm
    have hng := gone_other px.2 (all_apart hL)
    have hm' : M' px.1 = true := by rw [hM, gone_other peer (all_apart hL), hx2]; rfl
    obtain ⟨b, hb⟩ : ∃ b, N px.1 = some b := by
      cases hz : N px.1 with
      | none => exact absurd hz (hT.mark _ hm')
      | some b => exact ⟨b, rfl⟩
    obtain ⟨_, _, k2, k3⟩ := (hT.blk _ b hb).cells
    have f2 := (hT.blk _ b hb).frozen 2
    rw [hx3] at k3
    rw [hm'] at k2
    have hc2 := hv2.cell
    have hc3 := hv3.cell
    rw [hb]
    unfold ptrN Pv
    simp only [Option.map_some]
    have hkl := kept_le peer pre
    have hlen : pre.length < (allP O).length := by
      have := congrArg List.length hL
      rw [HO.out] at this
      simp at this
      omega
    obtain ⟨m, hmm⟩ : ∃ m, m = (allP O).length - kept peer pre := ⟨_, rfl⟩
    have hm1 : 1 ≤ m ∧ m ≤ 64 := by omega
    have hmc := hT.many
    rw [← hmm] at hmc hT
    obtain ⟨hmc, hmf⟩ := hmc
    gi_wp2_with fail
    refine wp_still_round l 5 (by kernel_rfl) (by kernel_rfl) (by kernel_rfl) ?_
    simp only [List.take_succ_cons, List.take_zero, List.drop_succ_cons, List.drop_zero]
    repeat still_step
    refine wpStill_nil ?_
    by_cases hpe : px.2 = peer
    · have hq : (px.2 == peer) = true := by rw [hpe]; exact beq_self_eq_true _
      have T1 := (hT.new (grow_drew (grow_refl W none))).setMark px.1 b hb false
      have hmc1 := T1.many
      have T2 := T1.setMany (m - 1)
      have e1 : ((m - 1 : Nat) : Int) = (m : Int) - 1 := by omega
      rw [e1] at T2
      have hv2' : Box1 ((W.drew.setCell ⟨b, 2, none⟩ (.bool false))) w.heap.size (.pointer (some ⟨tb, 0, none⟩)) := hv2.kept (grow_setCell (grow_drew (grow_refl W (some b))) 2 (.bool false)) (fun e => hT.nodeBlk hb hv2 (Option.some.inj e))
      have hc2' := hv2'.cell
      have gA : GT B0 W (W.drew.setCell ⟨b, 2, none⟩ (.bool false)) := (GT.new (grow_drew (grow_refl W none))).trans (Tree.gset (hT.new (grow_drew (grow_refl W none))) HL.out hb 2 (.bool false))
      have gB : GT B0 (W.drew.setCell ⟨b, 2, none⟩ (.bool false)) ((W.drew.setCell ⟨b, 2, none⟩ (.bool false)).setCell ⟨tb, 4, none⟩ (.int .i64 ((m : Int) - 1))) := Tree.gset (T1.new (grow_refl _ none)) HL.out T1.root 4 _
      have hG : GT B0 W ((W.drew.setCell ⟨b, 2, none⟩ (.bool false)).setCell ⟨tb, 4, none⟩ (.int .i64 ((m : Int) - 1))) := gA.trans gB
      have HF : Hid (KeepsFrom W0.heap.size W ((W.drew.setCell ⟨b, 2, none⟩ (.bool false)).setCell ⟨tb, 4, none⟩ (.int .i64 ((m : Int) - 1))) ∧ KeepPt Pt W ((W.drew.setCell ⟨b, 2, none⟩ (.bool false)).setCell ⟨tb, 4, none⟩ (.int .i64 ((m : Int) - 1))) ∧
          (∃ M', Tree ((W.drew.setCell ⟨b, 2, none⟩ (.bool false)).setCell ⟨tb, 4, none⟩ (.int .i64 ((m : Int) - 1))) tb N M' V ((allP O).length - kept peer (pre ++ [px])) ∧ (∀ q, M' q = (M q && !gone peer (pre ++ [px]) q)) ∧ Box1 ((W.drew.setCell ⟨b, 2, none⟩ (.bool false)).setCell ⟨tb, 4, none⟩ (.int .i64 ((m : Int) - 1))) w.heap.size (.pointer (some ⟨tb, 0, none⟩)) ∧ Box1 ((W.drew.setCell ⟨b, 2, none⟩ (.bool false)).setCell ⟨tb, 4, none⟩ (.int .i64 ((m : Int) - 1))) (w.heap.size + 1) (.int .i64 peer) ∧ GT B0 w ((W.drew.setCell ⟨b, 2, none⟩ (.bool false)).setCell ⟨tb, 4, none⟩ (.int .i64 ((m : Int) - 1))) ∧ w.heap.size + 2 ≤ ((W.drew.setCell ⟨b, 2, none⟩ (.bool false)).setCell ⟨tb, 4, none⟩ (.int .i64 ((m : Int) - 1))).heap.size)) := by
        refine Lib.hid ⟨?_, ?_, updM M' px.1 false, ?_, fun q => ?_, hv2.keptG hG, hv3.keptG hG, hg0.trans hG, Nat.le_trans hs hG.size⟩
        · exact (((KeepsOthers.drew W).trans (KeepsOthers.setCell _ _ _)).trans (KeepsOthers.setCell _ _ _)).from _
        · exact fun r o hr ho => hG.keep r o hr (fun hn => hn.not_Pt ho)
        · rw [kept_snoc, if_pos hq, ← Nat.sub_sub, ← hmm]; exact T2
        · rw [gone_snoc, updM, hM]
          by_cases e : q = px.1
          · subst e
            rw [if_pos rfl, hq]
            simp
          · have : (px.1 == q) = false := by rw [beq_eq_false_iff_ne]; exact fun h => e h.symm
            rw [if_neg e, this]
            simp
      clear T1 T2 gA gB hG hv2 hv3 hg0 hT hM hm' hmm hng hL hm hx1 hx2 hx3 hkl hlen
      go_wp2_with fail
      refine ⟨rfl, ?_⟩
      gi_wp2_with fail
      exact HF.out
    · have hq : (px.2 == peer) = false := by rw [beq_eq_false_iff_ne]; exact hpe
      have HF : Hid (KeepsFrom W0.heap.size W W.drew ∧ KeepPt Pt W W.drew ∧
          (∃ M', Tree W.drew tb N M' V ((allP O).length - kept peer (pre ++ [px])) ∧ (∀ q, M' q = (M q && !gone peer (pre ++ [px]) q)) ∧ Box1 W.drew w.heap.size (.pointer (some ⟨tb, 0, none⟩)) ∧ Box1 W.drew (w.heap.size + 1) (.int .i64 peer) ∧ GT B0 w W.drew ∧ w.heap.size + 2 ≤ W.drew.heap.size)) := by
        have gd := grow_drew (grow_refl W none)
        refine Lib.hid ⟨(KeepsOthers.drew W).from _, KeepPt.grown gd (fun k o e => by cases e), M', ?_, fun q => ?_, hv2.kept gd (by simp), hv3.kept gd (by simp), hg0.more gd, hs⟩
        · rw [kept_snoc, if_neg (by rw [hq]; decide), Nat.add_zero, ← hmm]; exact hT.new gd
        · rw [gone_snoc, hM, hq]
          simp
      clear hv2 hv3 hg0 hT hM hm' hmm hng hL hm hx1 hx2 hx3 hkl hlen
      go_wp2_with fail
      refine ⟨rfl, ?_⟩
      gi_wp2_with fail
      exact HF.out
  case done =>
    rintro D W hD ⟨M', hT, hM, hv2, hv3, hg, hs⟩ hK
    have hc2 := hv2.cell
    have hc3 := hv3.cell
    have hmc := hT.many.1
    have hdl : ∀ q, M q = true → q.length ≤ 32 := fun q hq => by
      cases hz : N q with
      | none => exact absurd hz (T.mark q hq)
      | some b => exact T.len q b hz
    have hO' : ownO M' V = dropO O peer := by rw [drop_all M V M' peer hM hdl, HO.out]
    have hdm := drop_many O peer
    rw [HO.out] at hT
    have hgp := grownBy_putObj' W D (.deferred none)
    have hT' : Tree (W.putObj D (.deferred none)) tb N M' V (allP (dropO O peer)).length := by
      have e : (allP O).length - kept peer (allP O) = (allP (dropO O peer)).length := by omega
      rw [e] at hT
      exact hT.keptT hgp (fun k e o ho hn => by
        obtain rfl := Option.some.inj e
        rw [hK] at ho
        cases ho
        have := hn.not_cells
        cases this)
    have HR : Hid (TB B0 (W.putObj D (.deferred none)) tb (dropO O peer) ∧ GT B0 w (W.putObj D (.deferred none))) :=
      Lib.hid ⟨⟨N, M', V, hT', HL.out, hO', by omega⟩, hg.beyond hgp (fun k e => by obtain rfl := Option.some.inj e; omega)⟩
    have e : (allP O).length - kept peer (allP O) = (allP (dropO O peer)).length := by omega
    rw [HO.out, e] at hmc
    have e2 : (((allP O).length : Int) - ((allP (dropO O peer)).length : Int)) = (((allP O).length - (allP (dropO O peer)).length : Nat) : Int) := by omega
    have HE := Lib.hid e2
    have l1 : (allP (dropO O peer)).length ≤ (allP O).length := by omega
    clear hT hM hv2 hv3 hg hT' hO' hdm e2 e hgp T g0 hb2 hb3
    generalize hn2 : (allP (dropO O peer)).length = n2 at *
    have HN := Lib.hid hn2
    clear hn2
    go_wp2_with fail
    refine ⟨by simp, .inl ⟨_, _, rfl, run_takeDeferred hK, ?_⟩⟩
    exact ⟨_, results_tmp rfl _ _ _, by show Ending.returned (Value.int .i64 (((allP O).length : Int) - (n2 : Int))) = _; rw [HE.out, HN.out], HR.out⟩

end Go.Proofs.Ytbkgfpebffmffaa
