/- A region that draws its order: its heads read, or make memory, in whatever order; its tail comes behind them all, in one order. No function of the program. -/
import Derived.Test.YtbkgfpebffmffaaDrawn
import Derived.StillTail
import Derived.OrdersIn
import Derived.CallsIn
import Derived.RangeFuncCalls
import Derived.TacticsIn
namespace Go.Proofs.Ytbkgfpebffmffaa
open Go.RowKit
set_option linter.unusedVariables false

/-! ### The same in a round -/
def noDeferB (l : List Oper) : Bool := l.all fun o => match o.op with
  | .defer _ => false
  | _ => true
theorem noDeferB_at {l : List Oper} (h : noDeferB l = true) {i : Nat} {o : Oper} (ho : l[i]? = some o) : ∀ c, o.op ≠ .defer c := by
  intro c e
  have := List.all_eq_true.1 h o (List.mem_of_getElem? ho)
  rw [e] at this
  cases this
theorem rows_in {P : Program} {row : String} {args : Array Value} {w : World} {R : Value → World → Prop} {F : Fence} {n : Nat} (hF : Machine.fenced P F = Machine.fenced P Fence.wide) (h : Rows P row args w R) : RowsIn F n P row args w R := by
  intro c cs _
  obtain ⟨v, w', r, s⟩ := h c cs
  refine ⟨v, w', r, ?_⟩
  rw [hF]
  exact stepsIn_wide.2 s
/-- An end that is normal. -/
def Norm (Q : Exit → Act → World → Prop) (e : Exit) (a : Act) (w : World) : Prop := e = .normal ∧ Q .normal a w
theorem Norm.noOut {Q : Exit → Act → World → Prop} (h : LetsOut (Norm Q)) : False := by
  obtain ⟨a, w, h1, _⟩ := h
  cases h1
theorem wpIn_of_wp {P : Program} {o : Oper} {a : Act} {w : World} {K : Act → World → Prop} {Q : Exit → Act → World → Prop} (l0 : Nat) (hd : ∀ c, o.op ≠ .defer c) (h : o.wp P a w K (Norm Q)) : o.wpIn (Fence.wide.inRound l0) 0 P a w K Q := by
  refine ⟨fun _ _ => trivial, ?_⟩
  unfold Oper.wp at h
  rw [Fence.inRound_round, Oper.semAt_some l0 _ o hd]
  generalize (execOp a.eval o).run P w = r at h ⊢
  cases r with
  | ok x w' =>
    cases x with
    | value v => exact h
    | skip => exact h
    | «defer» d => exact h
    | enter f args => exact ⟨fun e => (by cases e), (CallsIn.inRound l0 (callsIn_wide.2 h)).mono fun e w'' he => by
        cases e with
        | returned v => exact he
        | panicked c => cases he.1
        | outgrown => exact (Norm.noOut he).elim⟩
    | row row args => exact ⟨fun e => (by cases e), rows_in rfl h⟩
    | round _ _ _ _ _ => exact h.elim
    | _ => exact h.elim
  | halt x w' => cases x <;> first | exact h.elim | cases h.1
theorem wpOpIn_of_wpOp {P : Program} {l : List Oper} {Q : Exit → Act → World → Prop} (l0 : Nat) (hnd : noDeferB l = true) {i : Nat} {K : Act → World → Prop} {a : Act} {w : World} (h : wpOp P l.toArray (Norm Q) i K a w) : wpOpIn (Fence.wide.inRound l0) 0 P l.toArray Q i K a w := by
  unfold wpOp at h
  unfold wpOpIn
  cases ho : l.toArray[i]? with
  | none => simpa [ho] using h
  | some o =>
    simp only [ho] at h ⊢
    by_cases hw : Region.wanted o (yielded l.toArray a.tmps) = true
    · rw [if_pos hw] at h ⊢
      rcases h with h | h
      · exact wpIn_of_wp l0 (noDeferB_at hnd (i := i) (by simpa using ho)) h
      · exact (Norm.noOut h.2).elim
    · rw [if_neg hw] at h ⊢
      exact ⟨fun _ _ => trivial, h⟩
theorem wpAnyIn_of_any {P : Program} {l : List Oper} {Q : Exit → Act → World → Prop} {md : Region.Mode} (l0 : Nat) (hnd : noDeferB l = true) : ∀ (fuel : Nat) (listed : Array Bool) (a : Act) (w : World), wpAny P md l.toArray (Norm Q) fuel listed a w → wpAnyIn (Fence.wide.inRound l0) 0 P md l.toArray Q fuel listed a w
  | 0, _, _, _, h => ⟨h.1, h.2.2⟩
  | fuel + 1, _, _, _, h => ⟨fun hr => (h.1 hr).2, fun i hi => wpOpIn_of_wpOp l0 hnd (wpOp_mono (fun a w => wpAnyIn_of_any l0 hnd fuel _ a w) (h.2 i hi))⟩

/-! ### Heads and tail -/
/-- Each operation of the tail comes behind each head. -/
def tailB (l : List Oper) (n : Nat) : Bool := (List.range l.length).all fun i => decide (i < n) || (List.range n).all fun j => reachB l 20 i j
theorem tailB_spec {l : List Oper} {n : Nat} (h : tailB l n = true) {i j : Nat} (hi : i < l.length) (hn : n ≤ i) (hj : j < n) : reachB l 20 i j = true := by
  have h1 := List.all_eq_true.1 h i (List.mem_range.2 hi)
  simp only [Bool.or_eq_true, decide_eq_true_eq] at h1
  rcases h1 with h1 | h1
  · omega
  · exact List.all_eq_true.1 h1 j (List.mem_range.2 hj)
theorem reachB_spec2 {l : List Oper} {L : Nat → Bool} (hc : ∀ (i : Nat) (o : Oper), l[i]? = some o → L i = true → ∀ e ∈ o.after, Region.binds .any e = true → L e.on = true) (f i j : Nat) (h : reachB l f i j = true) (hd : ∀ o, l[i]? = some o → ∀ e ∈ o.after, Region.binds .any e = true → L e.on = true) : L j = true := by
  cases f with
  | zero => cases h
  | succ f =>
    rw [reachB] at h
    cases e : l[i]? with
    | none => rw [e] at h; cases h
    | some o =>
      rw [e] at h
      simp only [Bool.or_eq_true, List.any_eq_true, Bool.and_eq_true] at h
      rcases h with h | ⟨k, _, h1, h2⟩
      · exact waitsB_spec h (hd o e)
      · exact reachB_spec hc f k j h2 (waitsB_spec h1 (hd o e))

theorem wpAny_heads {P : Program} {l : List Oper} {Q : Exit → Act → World → Prop} (n : Nat) (hn : n ≤ l.length) (he : earlierB .any l.toArray = true) (ht : tailB l n = true)
    (hseq : Region.seqB .any l.toArray (l.length - n) n (((List.range l.length).map fun i => decide (i < n)).toArray) = true)
    (I : (Nat → Bool) → Act → World → Prop)
    (step : ∀ (L : Nat → Bool) (i : Nat) (o : Oper) (a : Act) (w : World), l[i]? = some o → i < n → L i = false → (∀ e ∈ o.after, Region.binds .any e = true → L e.on = true) → I L a w → wpOp P l.toArray Q i (I fun j => j == i || L j) a w)
    (fin : ∀ (L : Nat → Bool) (a : Act) (w : World), (∀ i, i < n → L i = true) → I L a w → wpList P l.toArray Q (l.drop n) a w) :
    ∀ (h : Nat) (listed : Array Bool) (a : Act) (w : World), listed.size = l.length → (listed.toList.take n).count false = h → (∀ i, n ≤ i → listed.getD i false = false) →
      (∀ (i : Nat) (o : Oper), l[i]? = some o → listed.getD i false = true → ∀ e ∈ o.after, Region.binds .any e = true → listed.getD e.on false = true) →
      I (fun j => listed.getD j false) a w → wpAny P .any l.toArray Q (h + (l.length - n)) listed a w := by
  intro h
  induction h with
  | zero =>
    intro listed a w hs hc htl hcl hI
    have hall : ∀ i, i < n → listed.getD i false = true := fun i hi => by
      rcases hb : listed.getD i false with _ | _
      · exfalso
        have hil : i < listed.size := by omega
        have e : listed[i] = false := by simpa [hil] using hb
        have hm : false ∈ listed.toList.take n := by
          rw [List.mem_take_iff_getElem]
          exact ⟨i, by simp; omega, by simpa using e⟩
        have := List.count_pos_iff.2 hm
        omega
      · rfl
    have hl : listed = ((List.range l.length).map fun i => decide (i < n)).toArray := by
      apply Array.ext
      · simp [hs]
      · intro i h1 h2
        simp only [List.getElem_toArray, List.getElem_map, List.getElem_range]
        by_cases q : i < n
        · have := hall i q
          simp only [q, decide_true]
          simpa [h1] using this
        · have := htl i (by omega)
          simp only [q, decide_false]
          simpa [h1] using this
    rw [Nat.zero_add]
    have hlen : (l.drop n).length = l.length - n := by simp
    rw [← hlen]
    refine wpAny_of_seq (l.drop n) n listed a w (fun j => by simp [List.getElem?_drop]) ?_ (fin _ a w hall hI)
    rw [hlen, hl]
    exact hseq
  | succ h ih =>
    intro listed a w hs hc htl hcl hI
    have hex : ∃ i, i < n ∧ listed.getD i false = false := by
      have hm : false ∈ listed.toList.take n := List.count_pos_iff.1 (by omega)
      rw [List.mem_take_iff_getElem] at hm
      obtain ⟨i, hi, e⟩ := hm
      have hi2 : i < n ∧ i < listed.size := by simp at hi; omega
      refine ⟨i, hi2.1, ?_⟩
      simp only [Array.getElem_toList] at e
      simp [hi2.2, e]
    have e1 : h + 1 + (l.length - n) = h + (l.length - n) + 1 := by omega
    rw [e1]
    refine ⟨fun hr => ?_, fun i hm => ?_⟩
    · exfalso
      obtain ⟨i, hi, hb⟩ := hex
      have := all_listed he (by simpa using hs) hr i (by simp; omega)
      rw [hb] at this
      cases this
    · rw [mem_ready] at hm
      obtain ⟨h1, o, ho, hd⟩ := hm
      have ho' : l[i]? = some o := by simpa using ho
      have hi : i < listed.size := by rw [hs]; exact (List.getElem?_eq_some_iff.1 ho').1
      have hL : listed.getD i false = false := by rw [← getD_flip hi]; exact h1
      have hin : i < n := by
        rcases Nat.lt_or_ge i n with q | q
        · exact q
        · exfalso
          obtain ⟨j, hj, hb⟩ := hex
          have := reachB_spec2 (L := fun k => listed.getD k false) hcl 20 i j (tailB_spec ht (by omega) q hj) (fun o' ho2 => by
            rw [ho'] at ho2
            obtain rfl := Option.some.inj ho2
            exact hd)
          rw [hb] at this
          cases this
      have hfun : (fun j => (listed.setIfInBounds i true).getD j false) = (fun j => j == i || listed.getD j false) := by
        funext j
        by_cases hj : j = i
        · subst hj
          simp [hi]
        · have : ¬ i = j := fun h => hj h.symm
          have hbq : (j == i) = false := by simpa using hj
          rw [hbq, Bool.false_or]
          simp only [Array.getD, Array.size_setIfInBounds]
          by_cases hj2 : j < listed.size
          · simp only [hj2, dite_true]
            exact Array.getElem_setIfInBounds_ne hj2 this
          · simp only [hj2, dite_false]
      refine wpOp_mono (fun a w hI' => ?_) (step (fun j => listed.getD j false) i o a w ho' hin hL hd hI)
      refine ih _ a w (by simpa using hs) ?_ ?_ ?_ (by rw [hfun]; exact hI')
      · have e : listed[i] = false := by simpa [hi] using hL
        rw [Array.toList_setIfInBounds, List.take_set]
        have hl : i < (listed.toList.take n).length := by simp; omega
        rw [List.count_set hl]
        have e2 : ((listed.toList.take n)[i] == false) = true := by simp [e]
        rw [if_pos e2, if_neg (by decide)]
        omega
      · intro j hj
        have h0 : (listed.setIfInBounds i true).getD j false = (j == i || listed.getD j false) := congrFun hfun j
        have h1 : (j == i) = false := by rw [beq_eq_false_iff_ne]; omega
        rw [h0, htl j hj, h1]
        rfl
      · intro k o' hk hLk e hee hbd
        have h2 : (listed.setIfInBounds i true).getD k false = (k == i || listed.getD k false) := congrFun hfun k
        have h3 : (listed.setIfInBounds i true).getD e.on false = (e.on == i || listed.getD e.on false) := congrFun hfun e.on
        rw [h2] at hLk
        rw [h3]
        by_cases q : k = i
        · subst q
          rw [ho'] at hk
          obtain rfl := Option.some.inj hk
          rw [hd e hee hbd, Bool.or_true]
        · have : (k == i) = false := by simpa using q
          rw [this, Bool.false_or] at hLk
          rw [hcl k o' hk hLk e hee hbd, Bool.or_true]

/-- The heads each yield a value of a kind, whatever the order is; then the tail. -/
theorem drawn_tail {P : Program} {l : List Oper} {Q : Exit → Act → World → Prop} {a0 : Act} {w : World} (n : Nat) (W : List Nat) (Ps : List (Value → World → Prop)) (he : earlierB .any l.toArray = true) (ht : tailB l n = true)
    (hseq : Region.seqB .any l.toArray (l.length - n) n (((List.range l.length).map fun i => decide (i < n)).toArray) = true) (hW : okSlots a0.tmps.size (l.take n) W = true) (hn : W.Nodup) (hnl : n ≤ l.length)
    (hl : Ps.length = n) (mono : MonoL none n 0 Ps)
    (hf : ∀ (vs : List Value) (x : World), vs.length = W.length → w.grownBy x none → StepsL P Q none n (fun _ => True) l (layAll a0 W vs) vs x Ps 0 (l.take n) Ps)
    (fin : ∀ (vs : List Value) (x : World), vs.length = W.length → w.grownBy x none → (∀ (j : Nat) (p : Value → World → Prop), Ps[j]? = some p → p (vs.getD j undef) x) → wpList P l.toArray Q (l.drop n) (layAll a0 W vs) x) : wpAny P .any l.toArray Q l.toArray.size (Array.replicate l.toArray.size false) a0 w.drew := by
  obtain ⟨hlen, hat⟩ := okSlots_at hW
  have hlt : (l.take n).length = n := by simp; omega
  have key := wpAny_heads (P := P) (l := l) (Q := Q) n hnl he ht hseq (fun L a x => ∃ vs : List Value, vs.length = W.length ∧ a = layAll a0 W vs ∧ w.grownBy x none ∧ ∀ (j : Nat) (p : Value → World → Prop), Ps[j]? = some p → L j = true → p (vs.getD j undef) x) ?_ ?_ n (Array.replicate l.length false) a0 w.drew (by simp) ?_ ?_ ?_ ?_
  · have e : n + (l.length - n) = l.toArray.size := by simp; omega
    rw [e] at key
    simpa using key
  · rintro L i o a x ho hin hLi hdeps ⟨vs, hv, rfl, hg, hp⟩
    have hti : (l.take n)[i]? = some o := by rw [List.getElem?_take_of_lt hin]; exact ho
    obtain ⟨hgd, s, hs, hds⟩ := hat i o hti
    have hil : i < Ps.length := by omega
    have hpi : Ps[i]? = some Ps[i] := by simp [hil]
    have hwait : Waited Ps o vs x := fun j hj => by
      have hLj := waitsB_spec hj hdeps
      cases e : Ps[j]? with
      | none => rw [List.getD_eq_getElem?_getD, e]; exact True.intro
      | some p => rw [List.getD_eq_getElem?_getD, e]; exact hp j p e hLj
    have st := stepsL_at (hf vs x hv hg) i o Ps[i] hti hpi (fun a x => ∃ vs : List Value, vs.length = W.length ∧ a = layAll a0 W vs ∧ w.grownBy x none ∧ ∀ (j : Nat) (p : Value → World → Prop), Ps[j]? = some p → (j == i || L j) = true → p (vs.getD j undef) x) hwait (fun _ => True.intro) (fun v y hv2 hg2' => by
      have hg2 : x.grownBy y none := by
        revert hg2'
        split <;> exact id
      refine ⟨vs.set i v, by simp [hv], ?_, grow_trans hg hg2, ?_⟩
      · rw [layAll_set W vs a0 i s v hn hs hv]
        rcases hds with h | ⟨h, h2⟩
        · rw [h]
        · rw [h, put_out _ _ _ (by rw [layAll_size]; exact h2)]
          rfl
      · intro j p hj hL
        by_cases e : j = i
        · subst e
          rw [hpi] at hj
          obtain rfl := Option.some.inj hj
          have hiv : j < vs.length := by rw [hv, ← hlen, hlt]; exact hin
          rw [List.getD_eq_getElem?_getD, List.getElem?_set_self hiv]
          exact hv2
        · have hLj : L j = true := by
            have : (j == i) = false := by simpa using e
            rwa [this, Bool.false_or] at hL
          rw [List.getD_eq_getElem?_getD, List.getElem?_set_ne (fun h => e h.symm), ← List.getD_eq_getElem?_getD]
          refine monoL_at mono j p hj _ _ _ (hp j p hj hLj) ?_
          split <;> exact hg2)
    unfold wpOp
    have ho2 : l.toArray[i]? = some o := by simpa using ho
    simp only [ho2]
    rw [if_pos (by unfold Region.wanted; rw [hgd])]
    exact Or.inl st
  · rintro L a x hL ⟨vs, hv, rfl, hg, hp⟩
    exact fin vs x hv hg fun j p hj => hp j p hj (hL j (by
      have := (List.getElem?_eq_some_iff.1 hj).1
      omega))
  · simp
    omega
  · intro i _
    simp [Array.getD]
  · intro i o _ h
    simp [Array.getD] at h
  · refine ⟨W.map fun s => a0.tmps.getD s undef, by simp, ?_, grow_drew (grow_refl w none), fun j p _ h => by simp [Array.getD] at h⟩
    have : ∀ (W : List Nat) (a : Act), layAll a W (W.map fun s => a.tmps.getD s undef) = a := by
      intro W
      induction W with
      | nil => intro a; rfl
      | cons s W ih =>
        intro a
        have e : a.put (some s) (a.tmps.getD s undef) = a := by
          by_cases h : s < a.tmps.size
          · simp only [Act.put]
            have : a.tmps.setIfInBounds s (a.tmps.getD s undef) = a.tmps := by
              apply Array.ext_getElem?
              intro i
              by_cases q : s = i
              · subst q; simp [h]
              · rw [Array.getElem?_setIfInBounds_ne q]
            rw [this]
          · exact put_out _ _ _ (by omega)
        rw [List.map_cons, layAll, e]
        exact ih a
    exact (this W a0).symm

theorem wp_drawn_tail {P : Program} {l : List Oper} {Q : Exit → Act → World → Prop} {id : Nat} {a0 : Act} {w : World} (hm : P.follows .mixedOrders = true) (h : wpAny P .any l.toArray Q l.toArray.size (Array.replicate l.toArray.size false) a0 w.drew) : (Code.region id l.toArray true).wp P Q a0 w := wp_region_any hm h
theorem wp_drawn_round {P : Program} {l : List Oper} {Q : Exit → Act → World → Prop} {id : Nat} {a0 : Act} {w : World} (l0 : Nat) (hm : P.follows .mixedOrders = true) (hnd : noDeferB l = true) (h : wpAny P .any l.toArray (Norm Q) l.toArray.size (Array.replicate l.toArray.size false) a0 w.drew) : (Code.region id l.toArray true).wpIn (Fence.wide.inRound l0) 0 P Q a0 w :=
  wpIn_region_any hm (wpAnyIn_of_any l0 hnd _ _ _ _ h)
/-- A region of reads alone, or of reads and one tail, in a round. -/
theorem wp_still_round {P : Program} {l : List Oper} {Q : Exit → Act → World → Prop} {id : Nat} {a : Act} {w : World} (l0 n : Nat) (hm : P.follows .mixedOrders = true) (hnd : noDeferB l = true) (hB : Region.lexTailB .any l.toArray n = true)
    (h : wpStill P l.toArray w.drew (fun a' => wpList P l.toArray (Norm Q) (l.drop n) a' w.drew) (l.take n) a) : (Code.region id l.toArray true).wpIn (Fence.wide.inRound l0) 0 P Q a w := by
  refine wpIn_region_any hm (wpAnyIn_of_any l0 hnd _ _ _ _ ?_)
  simp only [Region.lexTailB, Bool.and_eq_true, decide_eq_true_eq] at hB
  obtain ⟨⟨⟨⟨hsel, hn⟩, hs⟩, hc⟩, hlex⟩ := hB
  have hn' : n < l.length := by simpa using hn
  have htl : (l.take n).length = n := by simp; omega
  have hdl : (l.drop n).length = l.toArray.size - n := by simp
  have inv0 : HeadInv .any l.toArray n (Array.replicate l.toArray.size false) :=
    ⟨by simp, fun j oj _ hl => (by rw [getD_replicate_false] at hl; cases hl), fun t _ ht => getD_in (by simpa using ht) (getD_replicate_false _ _)⟩
  have H := wpAnyL_lex (md := .any) (g := l.toArray.size - n) hsel hs hc hn (l.take n) 0 _ a (fun j hj => by
    have hj' : j < n := by rw [htl] at hj; exact hj
    simp [hj']) (by simpa using htl) inv0 (by rw [htl]; exact hlex) h
  have := wpAny_of_head (Q' := Norm Q) (g := l.toArray.size - n) (fun listed a' hL => by
    have := wpAny_of_seq (md := .any) (Q' := Norm Q) (l.drop n) n listed a' w.drew (fun j => by simp [List.getElem?_drop]) (by rw [hdl]; exact hL.1) hL.2
    rwa [hdl] at this) _ _ _ H
  rw [htl, show n + (l.toArray.size - n) = l.toArray.size by omega] at this
  exact this

end Go.Proofs.Ytbkgfpebffmffaa
