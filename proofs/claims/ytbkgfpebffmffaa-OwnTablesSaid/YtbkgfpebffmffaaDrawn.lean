/- A region that draws its order: what each operation yields, whatever the order is. No function of the program. -/
import Derived.Test.YtbkgfpebffmffaaAnyInv
import Derived.Test.YtbkgfpebffmffaaGrow
import Derived.Test.YtbkgfpebffmffaaRow
namespace Go.Proofs.Ytbkgfpebffmffaa
open Go.RowKit
set_option linter.unusedVariables false

/-- A frame with values laid into slots. -/
def layAll (a : Act) : List Nat → List Value → Act
  | s :: r, v :: vs => layAll (a.put (some s) v) r vs
  | _, _ => a
theorem put_put (a : Act) (s : Nat) (v x : Value) : (a.put (some s) v).put (some s) x = a.put (some s) x := by
  simp only [Act.put]
  congr 1
  apply Array.ext_getElem?
  intro i
  by_cases h : s = i
  · subst h
    by_cases hs : s < a.tmps.size
    · simp [hs]
    · simp [Array.getElem?_eq_none, hs]
  · simp [Array.getElem?_setIfInBounds_ne h]
theorem put_comm (a : Act) (s t : Nat) (v x : Value) (h : s ≠ t) : (a.put (some s) v).put (some t) x = (a.put (some t) x).put (some s) v := by
  simp only [Act.put]
  congr 1
  exact Array.setIfInBounds_comm v x h
theorem put_out (a : Act) (s : Nat) (v : Value) (h : a.tmps.size ≤ s) : a.put (some s) v = a := by
  have : a.tmps.setIfInBounds s v = a.tmps := by
    apply Array.ext_getElem?
    intro i
    by_cases e : s = i
    · subst e
      rw [Array.getElem?_eq_none (by simpa using h), Array.getElem?_eq_none h]
    · rw [Array.getElem?_setIfInBounds_ne e]
  simp only [Act.put, this]
theorem layAll_put : ∀ (r : List Nat) (vs : List Value) (a : Act) (s : Nat) (x : Value), s ∉ r → (layAll a r vs).put (some s) x = layAll (a.put (some s) x) r vs
  | [], _, a, s, x, _ => rfl
  | t :: r, [], a, s, x, _ => rfl
  | t :: r, v :: vs, a, s, x, h => by
    rw [layAll, layAll, layAll_put r vs _ s x (fun e => h (List.mem_cons_of_mem _ e)), put_comm _ _ _ _ _ (fun e => h (by rw [e]; exact List.mem_cons_self))]
theorem layAll_set : ∀ (W : List Nat) (vs : List Value) (a : Act) (i s : Nat) (x : Value), W.Nodup → W[i]? = some s → vs.length = W.length → layAll a W (vs.set i x) = (layAll a W vs).put (some s) x
  | [], _, _, _, _, _, _, h, _ => by simp at h
  | t :: W, [], _, _, _, _, _, _, h => by simp at h
  | t :: W, v :: vs, a, 0, s, x, hn, h, hl => by
    obtain rfl : t = s := by simpa using h
    rw [List.set_cons_zero, layAll, layAll, layAll_put W vs _ t x (List.nodup_cons.1 hn).1, put_put]
  | t :: W, v :: vs, a, i + 1, s, x, hn, h, hl => by
    rw [List.set_cons_succ, layAll, layAll, layAll_set W vs _ i s x (List.nodup_cons.1 hn).2 (by simpa using h) (by simpa using hl)]
theorem layAll_size : ∀ (W : List Nat) (vs : List Value) (a : Act), (layAll a W vs).tmps.size = a.tmps.size
  | [], _, _ => rfl
  | _ :: _, [], _ => rfl
  | s :: W, v :: vs, a => by
    rw [layAll, layAll_size W vs]
    simp [Act.put]

/-- Does an operation wait for another one? -/
def waitsB (o : Oper) (n : Nat) : Bool := o.after.any fun e => Region.binds .any e && e.on == n
theorem waitsB_spec {o : Oper} {n : Nat} {L : Nat → Bool} (h : waitsB o n = true) (hd : ∀ e ∈ o.after, Region.binds .any e = true → L e.on = true) : L n = true := by
  unfold waitsB at h
  obtain ⟨e, he, h2⟩ := Array.any_eq_true'.1 h
  simp only [Bool.and_eq_true, beq_iff_eq] at h2
  have := hd e he h2.1
  rwa [h2.2] at this
/-- The slots of the operations, one by one; one that has none is given a number beyond the frame. -/
def okSlots (size : Nat) : List Oper → List Nat → Bool
  | o :: l, s :: W => (match o.dst with
    | some d => d == s
    | none => decide (size ≤ s)) && o.guard.isNone && okSlots size l W
  | [], [] => true
  | _, _ => false
theorem okSlots_at {size : Nat} : ∀ {l : List Oper} {W : List Nat}, okSlots size l W = true → l.length = W.length ∧ ∀ (i : Nat) (o : Oper), l[i]? = some o → o.guard = none ∧ ∃ s, W[i]? = some s ∧ ((o.dst = some s) ∨ (o.dst = none ∧ size ≤ s))
  | [], [], _ => ⟨rfl, fun i o h => by simp at h⟩
  | [], _ :: _, h => by simp [okSlots] at h
  | _ :: _, [], h => by simp [okSlots] at h
  | o :: l, s :: W, h => by
    simp only [okSlots, Bool.and_eq_true] at h
    obtain ⟨⟨h1, h2⟩, h3⟩ := h
    obtain ⟨e, f⟩ := okSlots_at h3
    refine ⟨by simp [e], fun i o' ho => ?_⟩
    cases i with
    | zero =>
      obtain rfl : o = o' := by simpa using ho
      refine ⟨by simpa using h2, s, rfl, ?_⟩
      cases hd : o.dst with
      | none => rw [hd] at h1; exact Or.inr ⟨rfl, by simpa using h1⟩
      | some d => rw [hd] at h1; left; rw [show d = s by simpa using h1]
    | succ i =>
      obtain ⟨g, s', h4, h5⟩ := f i o' (by simpa using ho)
      exact ⟨g, s', by simpa using h4, h5⟩

/-- An operation that must come behind another one. -/
def reachB (l : List Oper) : Nat → Nat → Nat → Bool
  | 0, _, _ => false
  | f + 1, i, j => match l[i]? with
    | some o => waitsB o j || (List.range l.length).any fun k => waitsB o k && reachB l f k j
    | none => false
theorem reachB_spec {l : List Oper} {L : Nat → Bool} (hc : ∀ (i : Nat) (o : Oper), l[i]? = some o → L i = true → ∀ e ∈ o.after, Region.binds .any e = true → L e.on = true) : ∀ (f i j : Nat), reachB l f i j = true → L i = true → L j = true
  | 0, _, _, h, _ => by cases h
  | f + 1, i, j, h, hL => by
    rw [reachB] at h
    cases e : l[i]? with
    | none => rw [e] at h; cases h
    | some o =>
      rw [e] at h
      simp only [Bool.or_eq_true, List.any_eq_true, Bool.and_eq_true] at h
      rcases h with h | ⟨k, _, h1, h2⟩
      · exact waitsB_spec h (hc i o e hL)
      · exact reachB_spec hc f k j h2 (waitsB_spec h1 (hc i o e hL))
def Waited (Ps : List (Value → World → Prop)) (o : Oper) (vs : List Value) (x : World) : Prop := ∀ j, waitsB o j = true → Ps.getD j (fun _ _ => True) (vs.getD j undef) x
/-- What is to be shown of one operation. -/
def Step1 (P : Program) (Q : Exit → Act → World → Prop) (D : Option Nat) (R : World → Prop) (A : Act) (vs : List Value) (x : World) (Ps : List (Value → World → Prop)) (o : Oper) (p : Value → World → Prop) : Prop :=
  ∀ K : Act → World → Prop, Waited Ps o vs x → R x → (∀ v y, p v y → x.grownBy y D → K (A.put o.dst v) y) → o.wp P A x K Q
/-- .. of each: the operation N writes the block D, which is R till then. -/
def StepsL (P : Program) (Q : Exit → Act → World → Prop) (D : Option Nat) (N : Nat) (R : World → Prop) (l0 : List Oper) (A : Act) (vs : List Value) (x : World) (Ps : List (Value → World → Prop)) : Nat → List Oper → List (Value → World → Prop) → Prop
  | i, o :: l, p :: r => Step1 P Q (if i = N then D else none) (fun y => i = N ∨ reachB l0 20 N i = true → R y) A vs x Ps o p ∧ StepsL P Q D N R l0 A vs x Ps (i + 1) l r
  | _, _, _ => True
theorem stepsL_cons {P : Program} {Q : Exit → Act → World → Prop} {D : Option Nat} {N : Nat} {R : World → Prop} {l0 : List Oper} {A : Act} {vs : List Value} {x : World} {Ps : List (Value → World → Prop)} {i : Nat} {o : Oper} {p : Value → World → Prop} {l : List Oper} {r : List (Value → World → Prop)}
    (h : Step1 P Q (if i = N then D else none) (fun y => i = N ∨ reachB l0 20 N i = true → R y) A vs x Ps o p) (t : StepsL P Q D N R l0 A vs x Ps (i + 1) l r) : StepsL P Q D N R l0 A vs x Ps i (o :: l) (p :: r) := ⟨h, t⟩
theorem stepsL_nil {P : Program} {Q : Exit → Act → World → Prop} {D : Option Nat} {N : Nat} {R : World → Prop} {l0 : List Oper} {A : Act} {vs : List Value} {x : World} {Ps : List (Value → World → Prop)} {i : Nat} : StepsL P Q D N R l0 A vs x Ps i [] [] := True.intro
theorem stepsL_at {P : Program} {Q : Exit → Act → World → Prop} {D : Option Nat} {N : Nat} {R : World → Prop} {l0 : List Oper} {A : Act} {vs : List Value} {x : World} {Ps : List (Value → World → Prop)} : ∀ {l : List Oper} {r : List (Value → World → Prop)} {n : Nat}, StepsL P Q D N R l0 A vs x Ps n l r → ∀ (i : Nat) (o : Oper) (p : Value → World → Prop), l[i]? = some o → r[i]? = some p → Step1 P Q (if n + i = N then D else none) (fun y => n + i = N ∨ reachB l0 20 N (n + i) = true → R y) A vs x Ps o p
  | [], _, _, _, i, _, _, h, _ => by simp at h
  | _ :: _, [], _, _, i, _, _, _, h => by simp at h
  | o :: l, p :: r, n, h, 0, o', p', h1, h2 => by
    obtain rfl : o = o' := by simpa using h1
    obtain rfl : p = p' := by simpa using h2
    exact h.1
  | o :: l, p :: r, n, h, i + 1, o', p', h1, h2 => by
    have := stepsL_at h.2 i o' p' (by simpa using h1) (by simpa using h2)
    rwa [show n + 1 + i = n + (i + 1) from by omega] at this
/-- What is once so stays so; what the operation N did, behind it. -/
def MonoL (D : Option Nat) (N : Nat) : Nat → List (Value → World → Prop) → Prop
  | i, p :: r => (∀ v x y, p v x → x.grownBy y (if i = N then none else D) → p v y) ∧ MonoL D N (i + 1) r
  | _, [] => True
theorem monoL_at {D : Option Nat} {N : Nat} : ∀ {Ps : List (Value → World → Prop)} {n : Nat}, MonoL D N n Ps → ∀ (i : Nat) (p : Value → World → Prop), Ps[i]? = some p → ∀ v x y, p v x → x.grownBy y (if n + i = N then none else D) → p v y
  | [], _, _, i, p, hp => by simp at hp
  | q :: r, n, h, 0, p, hp => by
    obtain rfl : q = p := by simpa using hp
    exact h.1
  | q :: r, n, h, i + 1, p, hp => by
    have := monoL_at h.2 i p (by simpa using hp)
    rwa [show n + 1 + i = n + (i + 1) from by omega] at this
/-- A value that is known. -/
def PEq (v : Value) : Value → World → Prop := fun u _ => u = v
/-- A new block. -/
def PBlk (base : Nat) (t : TypeId) (cs : List Value) (f : Nat → Value) : Value → World → Prop := fun u x => ∃ g, u = f g ∧ base ≤ g ∧ Blk x g t cs
/-- A block that the region writes into. -/
def PKept (B : Nat) (t : TypeId) (cs : List Value) : Value → World → Prop := fun _ x => Blk x B t cs
theorem mono_eq {D : Option Nat} (v : Value) : ∀ u x y, PEq v u x → x.grownBy y D → PEq v u y := fun _ _ _ h _ => h
theorem mono_blk {D : Option Nat} {base : Nat} (hB : ∀ B, D = some B → B < base) (t : TypeId) (cs : List Value) (f : Nat → Value) : ∀ u x y, PBlk base t cs f u x → x.grownBy y D → PBlk base t cs f u y := by
  rintro u x y ⟨g, h1, h2, h3⟩ hg
  exact ⟨g, h1, h2, h3.kept hg (fun e => by have := hB g e.symm; omega)⟩

theorem drawn_region {P : Program} {l : List Oper} {Q : Exit → Act → World → Prop} {id : Nat} {a0 : Act} {w : World} (D : Option Nat) (N : Nat) (R : World → Prop) (W : List Nat) (Ps : List (Value → World → Prop)) (hm : P.follows .mixedOrders = true) (he : earlierB .any l.toArray = true) (hW : okSlots a0.tmps.size l W = true) (hn : W.Nodup)
    (hl : Ps.length = l.length) (hR0 : R w) (hR : ∀ x y, R x → x.grownBy y none → R y)
    (mono : MonoL D N 0 Ps)
    (hf : ∀ (vs : List Value) (x : World), vs.length = W.length → w.grownBy x D → StepsL P Q D N R l (layAll a0 W vs) vs x Ps 0 l Ps)
    (fin : ∀ (vs : List Value) (x : World), vs.length = W.length → w.grownBy x D → (∀ (j : Nat) (p : Value → World → Prop), Ps[j]? = some p → p (vs.getD j undef) x) → Q .normal (layAll a0 W vs) x) : (Code.region id l.toArray true).wp P Q a0 w := by
  obtain ⟨hlen, hat⟩ := okSlots_at hW
  refine wp_region_inv hm he (fun L a x => ∃ vs : List Value, vs.length = W.length ∧ a = layAll a0 W vs ∧ w.grownBy x D ∧ (L N = false → R x) ∧ (∀ (i : Nat) (o : Oper), l[i]? = some o → L i = true → ∀ e ∈ o.after, Region.binds .any e = true → L e.on = true) ∧ ∀ (j : Nat) (p : Value → World → Prop), Ps[j]? = some p → L j = true → p (vs.getD j undef) x) ?_ ?_ ?_
  · rintro L i o a x ho hLi hdeps ⟨vs, hv, rfl, hg, hr, hc, hp⟩
    have ho' : l[i]? = some o := by simpa using ho
    obtain ⟨hgd, s, hs, hds⟩ := hat i o ho'
    have hil : i < Ps.length := by rw [hl]; exact (List.getElem?_eq_some_iff.1 ho').1
    have hpi : Ps[i]? = some Ps[i] := by simp [hil]
    have hwait : Waited Ps o vs x := fun j hj => by
      have hLj := waitsB_spec hj hdeps
      cases e : Ps[j]? with
      | none => rw [List.getD_eq_getElem?_getD, e]; exact True.intro
      | some p => rw [List.getD_eq_getElem?_getD, e]; exact hp j p e hLj
    have key := stepsL_at (hf vs x hv hg) i o Ps[i] ho' hpi (fun a x => ∃ vs : List Value, vs.length = W.length ∧ a = layAll a0 W vs ∧ w.grownBy x D ∧ ((N == i || L N) = false → R x) ∧ (∀ (k : Nat) (o : Oper), l[k]? = some o → (k == i || L k) = true → ∀ e ∈ o.after, Region.binds .any e = true → (e.on == i || L e.on) = true) ∧ ∀ (j : Nat) (p : Value → World → Prop), Ps[j]? = some p → (j == i || L j) = true → p (vs.getD j undef) x) hwait (fun e => hr (by
      rw [Nat.zero_add] at e
      rcases e with e | e
      · rw [← e]; exact hLi
      · cases h : L N with
        | false => rfl
        | true =>
          have := reachB_spec hc 20 N i e h
          rw [hLi] at this
          cases this)) (fun v y hv2 hg2' => by
      rw [Nat.zero_add] at hg2'
      have hg2 : x.grownBy y D := by
        by_cases e : i = N
        · rwa [if_pos e] at hg2'
        · rw [if_neg e] at hg2'; exact grow_none hg2'
      refine ⟨vs.set i v, by simp [hv], ?_, ?_, ?_, ?_, ?_⟩
      · rw [layAll_set W vs a0 i s v hn hs hv]
        rcases hds with h | ⟨h, h2⟩
        · rw [h]
        · rw [h, put_out _ _ _ (by rw [layAll_size]; exact h2)]
          rfl
      · exact grow_trans hg hg2
      · intro hN
        have h1 : ¬ i = N := fun e => by rw [e] at hN; simp at hN
        rw [if_neg h1] at hg2'
        have h2 : L N = false := by
          have : (N == i) = false := by simpa using fun e => h1 e.symm
          rwa [this, Bool.false_or] at hN
        exact hR _ _ (hr h2) hg2'
      · intro k o' hk hL e he hbd
        by_cases q : k = i
        · subst q
          rw [ho'] at hk
          obtain rfl := Option.some.inj hk
          rw [hdeps e he hbd, Bool.or_true]
        · have : (k == i) = false := by simpa using q
          rw [this, Bool.false_or] at hL
          rw [hc k o' hk hL e he hbd, Bool.or_true]
      · intro j p hj hL
        by_cases e : j = i
        · subst e
          rw [hpi] at hj
          obtain rfl := Option.some.inj hj
          have hiv : j < vs.length := by rw [hv, ← hlen, ← hl]; exact hil
          rw [List.getD_eq_getElem?_getD, List.getElem?_set_self hiv]
          exact hv2
        · have hLj : L j = true := by
            have : (j == i) = false := by simpa using e
            rwa [this, Bool.false_or] at hL
          rw [List.getD_eq_getElem?_getD, List.getElem?_set_ne (fun h => e h.symm), ← List.getD_eq_getElem?_getD]
          refine monoL_at mono j p hj _ _ _ (hp j p hj hLj) ?_
          rw [Nat.zero_add]
          by_cases q : j = N
          · rw [if_pos q]
            rw [if_neg (fun h => e (by rw [q, h]))] at hg2'
            exact hg2'
          · rw [if_neg q]
            exact hg2)
    unfold wpOp
    simp only [ho]
    rw [if_pos (by unfold Region.wanted; rw [hgd])]
    exact Or.inl key
  · rintro L a x hL ⟨vs, hv, rfl, hg, hr, hc, hp⟩
    exact fin vs x hv hg fun j p hj => hp j p hj (hL j (by
      have := (List.getElem?_eq_some_iff.1 hj).1
      simp
      omega))
  · refine ⟨W.map fun s => a0.tmps.getD s undef, by simp, ?_, grow_drew (grow_refl w D), fun _ => hR _ _ hR0 (grow_drew (grow_refl w none)), fun _ _ _ h => (nomatch h), fun j p _ h => by cases h⟩
    have : ∀ (W : List Nat) (a : Act), layAll a W (W.map fun s => a.tmps.getD s undef) = a := by
      intro W
      induction W with
      | nil => intro a; rfl
      | cons s W ih =>
        intro a
        have e : a.put (some s) (a.tmps.getD s undef) = a := by
          by_cases h : s < a.tmps.size
          · simp only [Act.put]
            have : a.tmps.setIfInBounds s (a.tmps.getD s undef) = a.tmps := by
              apply Array.ext_getElem?
              intro i
              by_cases q : s = i
              · subst q; simp [h]
              · rw [Array.getElem?_setIfInBounds_ne q]
            rw [this]
          · exact put_out _ _ _ (by omega)
        rw [List.map_cons, layAll, e]
        exact ih a
    exact (this W a0).symm

theorem mono_kept (B : Nat) (t : TypeId) (cs : List Value) : ∀ u x y, PKept B t cs u x → x.grownBy y none → PKept B t cs u y := fun _ _ _ h g => Blk.kept h g (by simp)
/-- A piece that ends in one way alone. -/
theorem wp_one {P : Program} {c : Code} {Q : Exit → Act → World → Prop} {a : Act} {w : World} (F : Act) (X : World) (h : c.wp P (fun e a' w' => e = .normal ∧ a' = F ∧ w' = X) a w) (k : Q .normal F X) : c.wp P Q a w :=
  wp_mono h (by rintro e a' w' ⟨rfl, rfl, rfl⟩; exact k)

/-- A piece that ends in one frame, in a world of a kind. -/
theorem wp_some {P : Program} {c : Code} {Q : Exit → Act → World → Prop} {a : Act} {w : World} (X : World → Prop) (F : Act) (h : c.wp P (fun e a' w' => e = .normal ∧ a' = F ∧ X w') a w) (k : ∀ w', X w' → Q .normal F w') : c.wp P Q a w :=
  wp_mono h (by rintro e a' w' ⟨rfl, rfl, hx⟩; exact k _ hx)

end Go.Proofs.Ytbkgfpebffmffaa
