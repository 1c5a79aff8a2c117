/-
  Several texts of this claim in one: Drawn, DrawnTail, MapLit.
-/
import Derived.Test.YtmomfbkpniblgaaGreatDoorDg04
import Derived.Test.YtmomfbkpniblgaaGreatDoorDgGrow
import Derived.StillTail
import Derived.OrdersIn
import Derived.CallsIn
import Derived.RangeFuncCalls
import Derived.TacticsIn
import Derived.WideMake
import Derived.WalkKit
import Derived.RangeFuncRecord
import Derived.Great.Walk
import Derived.Shelf.Abstract
import Derived.RangeFuncNested
namespace Go.Proofs.YtmomfbkpniblgaaGreatDoor
open Go.RowKit
set_option linter.unusedVariables false

/-- A frame with values laid into slots. -/
def layAll (a : Act) : List Nat → List Value → Act
  | s :: r, v :: vs => layAll (a.put (some s) v) r vs
  | _, _ => a
theorem put_put (a : Act) (s : Nat) (v x : Value) : (a.put (some s) v).put (some s) x = a.put (some s) x := by
  simp only [Act.put]
  congr 1
  apply Array.ext_getElem?
  intro i
  by_cases h : s = i
  · subst h
    by_cases hs : s < a.tmps.size
    · simp [hs]
    · simp [hs]
  · simp [Array.getElem?_setIfInBounds_ne h]
theorem put_comm (a : Act) (s t : Nat) (v x : Value) (h : s ≠ t) : (a.put (some s) v).put (some t) x = (a.put (some t) x).put (some s) v := by
  simp only [Act.put]
  congr 1
  exact Array.setIfInBounds_comm v x h
theorem put_out (a : Act) (s : Nat) (v : Value) (h : a.tmps.size ≤ s) : a.put (some s) v = a := by
  have : a.tmps.setIfInBounds s v = a.tmps := by
    apply Array.ext_getElem?
    intro i
    by_cases e : s = i
    · subst e
      rw [Array.getElem?_eq_none (by simpa using h), Array.getElem?_eq_none h]
    · rw [Array.getElem?_setIfInBounds_ne e]
  simp only [Act.put, this]
theorem layAll_put : ∀ (r : List Nat) (vs : List Value) (a : Act) (s : Nat) (x : Value), s ∉ r → (layAll a r vs).put (some s) x = layAll (a.put (some s) x) r vs
  | [], _, a, s, x, _ => rfl
  | t :: r, [], a, s, x, _ => rfl
  | t :: r, v :: vs, a, s, x, h => by
    rw [layAll, layAll, layAll_put r vs _ s x (fun e => h (List.mem_cons_of_mem _ e)), put_comm _ _ _ _ _ (fun e => h (by rw [e]; exact List.mem_cons_self))]
theorem layAll_set : ∀ (W : List Nat) (vs : List Value) (a : Act) (i s : Nat) (x : Value), W.Nodup → W[i]? = some s → vs.length = W.length → layAll a W (vs.set i x) = (layAll a W vs).put (some s) x
  | [], _, _, _, _, _, _, h, _ => by simp at h
  | t :: W, [], _, _, _, _, _, _, h => by simp at h
  | t :: W, v :: vs, a, 0, s, x, hn, h, hl => by
    obtain rfl : t = s := by simpa using h
    rw [List.set_cons_zero, layAll, layAll, layAll_put W vs _ t x (List.nodup_cons.1 hn).1, put_put]
  | t :: W, v :: vs, a, i + 1, s, x, hn, h, hl => by
    rw [List.set_cons_succ, layAll, layAll, layAll_set W vs _ i s x (List.nodup_cons.1 hn).2 (by simpa using h) (by simpa using hl)]
theorem layAll_size : ∀ (W : List Nat) (vs : List Value) (a : Act), (layAll a W vs).tmps.size = a.tmps.size
  | [], _, _ => rfl
  | _ :: _, [], _ => rfl
  | s :: W, v :: vs, a => by
    rw [layAll, layAll_size W vs]
    simp [Act.put]

/-- Does an operation wait for another one? -/
def waitsB (o : Oper) (n : Nat) : Bool := o.after.any fun e => Region.binds .any e && e.on == n
theorem waitsB_spec {o : Oper} {n : Nat} {L : Nat → Bool} (h : waitsB o n = true) (hd : ∀ e ∈ o.after, Region.binds .any e = true → L e.on = true) : L n = true := by
  unfold waitsB at h
  obtain ⟨e, he, h2⟩ := Array.any_eq_true'.1 h
  simp only [Bool.and_eq_true, beq_iff_eq] at h2
  have := hd e he h2.1
  rwa [h2.2] at this
/-- The slots of the operations, one by one; one that has none is given a number beyond the frame. -/
def okSlots (size : Nat) : List Oper → List Nat → Bool
  | o :: l, s :: W => (match o.dst with
    | some d => d == s
    | none => decide (size ≤ s)) && o.guard.isNone && okSlots size l W
  | [], [] => true
  | _, _ => false
theorem okSlots_at {size : Nat} : ∀ {l : List Oper} {W : List Nat}, okSlots size l W = true → l.length = W.length ∧ ∀ (i : Nat) (o : Oper), l[i]? = some o → o.guard = none ∧ ∃ s, W[i]? = some s ∧ ((o.dst = some s) ∨ (o.dst = none ∧ size ≤ s))
  | [], [], _ => ⟨rfl, fun i o h => by simp at h⟩
  | [], _ :: _, h => by simp [okSlots] at h
  | _ :: _, [], h => by simp [okSlots] at h
  | o :: l, s :: W, h => by
    simp only [okSlots, Bool.and_eq_true] at h
    obtain ⟨⟨h1, h2⟩, h3⟩ := h
    obtain ⟨e, f⟩ := okSlots_at h3
    refine ⟨by simp [e], fun i o' ho => ?_⟩
    cases i with
    | zero =>
      obtain rfl : o = o' := by simpa using ho
      refine ⟨by simpa using h2, s, rfl, ?_⟩
      cases hd : o.dst with
      | none => rw [hd] at h1; exact Or.inr ⟨rfl, by simpa using h1⟩
      | some d => rw [hd] at h1; left; rw [show d = s by simpa using h1]
    | succ i =>
      obtain ⟨g, s', h4, h5⟩ := f i o' (by simpa using ho)
      exact ⟨g, s', by simpa using h4, h5⟩

/-- An operation that must come behind another one. -/
def reachB (l : List Oper) : Nat → Nat → Nat → Bool
  | 0, _, _ => false
  | f + 1, i, j => match l[i]? with
    | some o => waitsB o j || (List.range l.length).any fun k => waitsB o k && reachB l f k j
    | none => false
theorem reachB_spec {l : List Oper} {L : Nat → Bool} (hc : ∀ (i : Nat) (o : Oper), l[i]? = some o → L i = true → ∀ e ∈ o.after, Region.binds .any e = true → L e.on = true) : ∀ (f i j : Nat), reachB l f i j = true → L i = true → L j = true
  | 0, _, _, h, _ => by cases h
  | f + 1, i, j, h, hL => by
    rw [reachB] at h
    cases e : l[i]? with
    | none => rw [e] at h; cases h
    | some o =>
      rw [e] at h
      simp only [Bool.or_eq_true, List.any_eq_true, Bool.and_eq_true] at h
      rcases h with h | ⟨k, _, h1, h2⟩
      · exact waitsB_spec h (hc i o e hL)
      · exact reachB_spec hc f k j h2 (waitsB_spec h1 (hc i o e hL))
def Waited (Ps : List (Value → World → Prop)) (o : Oper) (vs : List Value) (x : World) : Prop := ∀ j, waitsB o j = true → Ps.getD j (fun _ _ => True) (vs.getD j undef) x
/-- What is to be shown of one operation. -/
def Step1 (P : Program) (Q : Exit → Act → World → Prop) (D : Option Nat) (R : World → Prop) (A : Act) (vs : List Value) (x : World) (Ps : List (Value → World → Prop)) (o : Oper) (p : Value → World → Prop) : Prop :=
  ∀ K : Act → World → Prop, Waited Ps o vs x → R x → (∀ v y, p v y → x.grownBy y D → K (A.put o.dst v) y) → o.wp P A x K Q
/-- .. of each: the operation N writes the block D, which is R till then. -/
def StepsL (P : Program) (Q : Exit → Act → World → Prop) (D : Option Nat) (N : Nat) (R : World → Prop) (l0 : List Oper) (A : Act) (vs : List Value) (x : World) (Ps : List (Value → World → Prop)) : Nat → List Oper → List (Value → World → Prop) → Prop
  | i, o :: l, p :: r => Step1 P Q (if i = N then D else none) (fun y => i = N ∨ reachB l0 20 N i = true → R y) A vs x Ps o p ∧ StepsL P Q D N R l0 A vs x Ps (i + 1) l r
  | _, _, _ => True
theorem stepsL_cons {P : Program} {Q : Exit → Act → World → Prop} {D : Option Nat} {N : Nat} {R : World → Prop} {l0 : List Oper} {A : Act} {vs : List Value} {x : World} {Ps : List (Value → World → Prop)} {i : Nat} {o : Oper} {p : Value → World → Prop} {l : List Oper} {r : List (Value → World → Prop)}
    (h : Step1 P Q (if i = N then D else none) (fun y => i = N ∨ reachB l0 20 N i = true → R y) A vs x Ps o p) (t : StepsL P Q D N R l0 A vs x Ps (i + 1) l r) : StepsL P Q D N R l0 A vs x Ps i (o :: l) (p :: r) := ⟨h, t⟩
theorem stepsL_nil {P : Program} {Q : Exit → Act → World → Prop} {D : Option Nat} {N : Nat} {R : World → Prop} {l0 : List Oper} {A : Act} {vs : List Value} {x : World} {Ps : List (Value → World → Prop)} {i : Nat} : StepsL P Q D N R l0 A vs x Ps i [] [] := True.intro
theorem stepsL_at {P : Program} {Q : Exit → Act → World → Prop} {D : Option Nat} {N : Nat} {R : World → Prop} {l0 : List Oper} {A : Act} {vs : List Value} {x : World} {Ps : List (Value → World → Prop)} : ∀ {l : List Oper} {r : List (Value → World → Prop)} {n : Nat}, StepsL P Q D N R l0 A vs x Ps n l r → ∀ (i : Nat) (o : Oper) (p : Value → World → Prop), l[i]? = some o → r[i]? = some p → Step1 P Q (if n + i = N then D else none) (fun y => n + i = N ∨ reachB l0 20 N (n + i) = true → R y) A vs x Ps o p
  | [], _, _, _, i, _, _, h, _ => by simp at h
  | _ :: _, [], _, _, i, _, _, _, h => by simp at h
  | o :: l, p :: r, n, h, 0, o', p', h1, h2 => by
    obtain rfl : o = o' := by simpa using h1
    obtain rfl : p = p' := by simpa using h2
    exact h.1
  | o :: l, p :: r, n, h, i + 1, o', p', h1, h2 => by
    have := stepsL_at h.2 i o' p' (by simpa using h1) (by simpa using h2)
    rwa [show n + 1 + i = n + (i + 1) from by omega] at this
/-- What is once so stays so; what the operation N did, behind it. -/
def MonoL (D : Option Nat) (N : Nat) : Nat → List (Value → World → Prop) → Prop
  | i, p :: r => (∀ v x y, p v x → x.grownBy y (if i = N then none else D) → p v y) ∧ MonoL D N (i + 1) r
  | _, [] => True
theorem monoL_at {D : Option Nat} {N : Nat} : ∀ {Ps : List (Value → World → Prop)} {n : Nat}, MonoL D N n Ps → ∀ (i : Nat) (p : Value → World → Prop), Ps[i]? = some p → ∀ v x y, p v x → x.grownBy y (if n + i = N then none else D) → p v y
  | [], _, _, i, p, hp => by simp at hp
  | q :: r, n, h, 0, p, hp => by
    obtain rfl : q = p := by simpa using hp
    exact h.1
  | q :: r, n, h, i + 1, p, hp => by
    have := monoL_at h.2 i p (by simpa using hp)
    rwa [show n + 1 + i = n + (i + 1) from by omega] at this
/-- A value that is known. -/
def PEq (v : Value) : Value → World → Prop := fun u _ => u = v
/-- A new block. -/
def PBlk (base : Nat) (t : TypeId) (cs : List Value) (f : Nat → Value) : Value → World → Prop := fun u x => ∃ g, u = f g ∧ base ≤ g ∧ Blk x g t cs
/-- A block that the region writes into. -/
def PKept (B : Nat) (t : TypeId) (cs : List Value) : Value → World → Prop := fun _ x => Blk x B t cs
theorem mono_eq {D : Option Nat} (v : Value) : ∀ u x y, PEq v u x → x.grownBy y D → PEq v u y := fun _ _ _ h _ => h
theorem mono_blk {D : Option Nat} {base : Nat} (hB : ∀ B, D = some B → B < base) (t : TypeId) (cs : List Value) (f : Nat → Value) : ∀ u x y, PBlk base t cs f u x → x.grownBy y D → PBlk base t cs f u y := by
  rintro u x y ⟨g, h1, h2, h3⟩ hg
  exact ⟨g, h1, h2, h3.kept hg (fun e => by have := hB g e.symm; omega)⟩

theorem drawn_region {P : Program} {l : List Oper} {Q : Exit → Act → World → Prop} {id : Nat} {a0 : Act} {w : World} (D : Option Nat) (N : Nat) (R : World → Prop) (W : List Nat) (Ps : List (Value → World → Prop)) (hm : P.follows .mixedOrders = true) (he : earlierB .any l.toArray = true) (hW : okSlots a0.tmps.size l W = true) (hn : W.Nodup)
    (hl : Ps.length = l.length) (hR0 : R w) (hR : ∀ x y, R x → x.grownBy y none → R y)
    (mono : MonoL D N 0 Ps)
    (hf : ∀ (vs : List Value) (x : World), vs.length = W.length → w.grownBy x D → StepsL P Q D N R l (layAll a0 W vs) vs x Ps 0 l Ps)
    (fin : ∀ (vs : List Value) (x : World), vs.length = W.length → w.grownBy x D → (∀ (j : Nat) (p : Value → World → Prop), Ps[j]? = some p → p (vs.getD j undef) x) → Q .normal (layAll a0 W vs) x) : (Code.region id l.toArray true).wp P Q a0 w := by
  obtain ⟨hlen, hat⟩ := okSlots_at hW
  refine wp_region_inv hm he (fun L a x => ∃ vs : List Value, vs.length = W.length ∧ a = layAll a0 W vs ∧ w.grownBy x D ∧ (L N = false → R x) ∧ (∀ (i : Nat) (o : Oper), l[i]? = some o → L i = true → ∀ e ∈ o.after, Region.binds .any e = true → L e.on = true) ∧ ∀ (j : Nat) (p : Value → World → Prop), Ps[j]? = some p → L j = true → p (vs.getD j undef) x) ?_ ?_ ?_
  · rintro L i o a x ho hLi hdeps ⟨vs, hv, rfl, hg, hr, hc, hp⟩
    have ho' : l[i]? = some o := by simpa using ho
    obtain ⟨hgd, s, hs, hds⟩ := hat i o ho'
    have hil : i < Ps.length := by rw [hl]; exact (List.getElem?_eq_some_iff.1 ho').1
    have hpi : Ps[i]? = some Ps[i] := by simp [hil]
    have hwait : Waited Ps o vs x := fun j hj => by
      have hLj := waitsB_spec hj hdeps
      cases e : Ps[j]? with
      | none => rw [List.getD_eq_getElem?_getD, e]; exact True.intro
      | some p => rw [List.getD_eq_getElem?_getD, e]; exact hp j p e hLj
    have key := stepsL_at (hf vs x hv hg) i o Ps[i] ho' hpi (fun a x => ∃ vs : List Value, vs.length = W.length ∧ a = layAll a0 W vs ∧ w.grownBy x D ∧ ((N == i || L N) = false → R x) ∧ (∀ (k : Nat) (o : Oper), l[k]? = some o → (k == i || L k) = true → ∀ e ∈ o.after, Region.binds .any e = true → (e.on == i || L e.on) = true) ∧ ∀ (j : Nat) (p : Value → World → Prop), Ps[j]? = some p → (j == i || L j) = true → p (vs.getD j undef) x) hwait (fun e => hr (by
      rw [Nat.zero_add] at e
      rcases e with e | e
      · rw [← e]; exact hLi
      · cases h : L N with
        | false => rfl
        | true =>
          have := reachB_spec hc 20 N i e h
          rw [hLi] at this
          cases this)) (fun v y hv2 hg2' => by
      rw [Nat.zero_add] at hg2'
      have hg2 : x.grownBy y D := by
        by_cases e : i = N
        · rwa [if_pos e] at hg2'
        · rw [if_neg e] at hg2'; exact grow_none hg2'
      refine ⟨vs.set i v, by simp [hv], ?_, ?_, ?_, ?_, ?_⟩
      · rw [layAll_set W vs a0 i s v hn hs hv]
        rcases hds with h | ⟨h, h2⟩
        · rw [h]
        · rw [h, put_out _ _ _ (by rw [layAll_size]; exact h2)]
          rfl
      · exact grow_trans hg hg2
      · intro hN
        have h1 : ¬ i = N := fun e => by rw [e] at hN; simp at hN
        rw [if_neg h1] at hg2'
        have h2 : L N = false := by
          have : (N == i) = false := by simpa using fun e => h1 e.symm
          rwa [this, Bool.false_or] at hN
        exact hR _ _ (hr h2) hg2'
      · intro k o' hk hL e he hbd
        by_cases q : k = i
        · subst q
          rw [ho'] at hk
          obtain rfl := Option.some.inj hk
          rw [hdeps e he hbd, Bool.or_true]
        · have : (k == i) = false := by simpa using q
          rw [this, Bool.false_or] at hL
          rw [hc k o' hk hL e he hbd, Bool.or_true]
      · intro j p hj hL
        by_cases e : j = i
        · subst e
          rw [hpi] at hj
          obtain rfl := Option.some.inj hj
          have hiv : j < vs.length := by rw [hv, ← hlen, ← hl]; exact hil
          rw [List.getD_eq_getElem?_getD, List.getElem?_set_self hiv]
          exact hv2
        · have hLj : L j = true := by
            have : (j == i) = false := by simpa using e
            rwa [this, Bool.false_or] at hL
          rw [List.getD_eq_getElem?_getD, List.getElem?_set_ne (fun h => e h.symm), ← List.getD_eq_getElem?_getD]
          refine monoL_at mono j p hj _ _ _ (hp j p hj hLj) ?_
          rw [Nat.zero_add]
          by_cases q : j = N
          · rw [if_pos q]
            rw [if_neg (fun h => e (by rw [q, h]))] at hg2'
            exact hg2'
          · rw [if_neg q]
            exact hg2)
    unfold wpOp
    simp only [ho]
    rw [if_pos (by unfold Region.wanted; rw [hgd])]
    exact Or.inl key
  · rintro L a x hL ⟨vs, hv, rfl, hg, hr, hc, hp⟩
    exact fin vs x hv hg fun j p hj => hp j p hj (hL j (by
      have := (List.getElem?_eq_some_iff.1 hj).1
      simp
      omega))
  · refine ⟨W.map fun s => a0.tmps.getD s undef, by simp, ?_, grow_drew (grow_refl w D), fun _ => hR _ _ hR0 (grow_drew (grow_refl w none)), fun _ _ _ h => (nomatch h), fun j p _ h => by cases h⟩
    have : ∀ (W : List Nat) (a : Act), layAll a W (W.map fun s => a.tmps.getD s undef) = a := by
      intro W
      induction W with
      | nil => intro a; rfl
      | cons s W ih =>
        intro a
        have e : a.put (some s) (a.tmps.getD s undef) = a := by
          by_cases h : s < a.tmps.size
          · simp only [Act.put]
            have : a.tmps.setIfInBounds s (a.tmps.getD s undef) = a.tmps := by
              apply Array.ext_getElem?
              intro i
              by_cases q : s = i
              · subst q; simp [h]
              · rw [Array.getElem?_setIfInBounds_ne q]
            rw [this]
          · exact put_out _ _ _ (by omega)
        rw [List.map_cons, layAll, e]
        exact ih a
    exact (this W a0).symm

theorem mono_kept (B : Nat) (t : TypeId) (cs : List Value) : ∀ u x y, PKept B t cs u x → x.grownBy y none → PKept B t cs u y := fun _ _ _ h g => Blk.kept h g (by simp)
/-- A piece that ends in one way alone. -/
theorem wp_one {P : Program} {c : Code} {Q : Exit → Act → World → Prop} {a : Act} {w : World} (F : Act) (X : World) (h : c.wp P (fun e a' w' => e = .normal ∧ a' = F ∧ w' = X) a w) (k : Q .normal F X) : c.wp P Q a w :=
  wp_mono h (by rintro e a' w' ⟨rfl, rfl, rfl⟩; exact k)

/-- A piece that ends in one frame, in a world of a kind. -/
theorem wp_some {P : Program} {c : Code} {Q : Exit → Act → World → Prop} {a : Act} {w : World} (X : World → Prop) (F : Act) (h : c.wp P (fun e a' w' => e = .normal ∧ a' = F ∧ X w') a w) (k : ∀ w', X w' → Q .normal F w') : c.wp P Q a w :=
  wp_mono h (by rintro e a' w' ⟨rfl, rfl, hx⟩; exact k _ hx)

end Go.Proofs.YtmomfbkpniblgaaGreatDoor

namespace Go.Proofs.YtmomfbkpniblgaaGreatDoor
open Go.RowKit
set_option linter.unusedVariables false

/-! ### The same in a round -/
def noDeferB (l : List Oper) : Bool := l.all fun o => match o.op with
  | .defer _ => false
  | _ => true
theorem noDeferB_at {l : List Oper} (h : noDeferB l = true) {i : Nat} {o : Oper} (ho : l[i]? = some o) : ∀ c, o.op ≠ .defer c := by
  intro c e
  have := List.all_eq_true.1 h o (List.mem_of_getElem? ho)
  rw [e] at this
  cases this
theorem rows_in {P : Program} {row : String} {args : Array Value} {w : World} {R : Value → World → Prop} {F : Fence} {n : Nat} (hF : Machine.fenced P F = Machine.fenced P Fence.wide) (h : Rows P row args w R) : RowsIn F n P row args w R := by
  intro c cs _
  obtain ⟨v, w', r, s⟩ := h c cs
  refine ⟨v, w', r, ?_⟩
  rw [hF]
  exact stepsIn_wide.2 s
/-- An end that is normal. -/
def Norm (Q : Exit → Act → World → Prop) (e : Exit) (a : Act) (w : World) : Prop := e = .normal ∧ Q .normal a w
theorem Norm.noOut {Q : Exit → Act → World → Prop} (h : LetsOut (Norm Q)) : False := by
  obtain ⟨a, w, h1, _⟩ := h
  cases h1
theorem wpIn_of_wp {P : Program} {o : Oper} {a : Act} {w : World} {K : Act → World → Prop} {Q : Exit → Act → World → Prop} (l0 : Nat) (hd : ∀ c, o.op ≠ .defer c) (h : o.wp P a w K (Norm Q)) : o.wpIn (Fence.wide.inRound l0) 0 P a w K Q := by
  refine ⟨fun _ _ => trivial, ?_⟩
  unfold Oper.wp at h
  rw [Fence.inRound_round, Oper.semAt_some l0 _ o hd]
  generalize (execOp a.eval o).run P w = r at h ⊢
  cases r with
  | ok x w' =>
    cases x with
    | value v => exact h
    | skip => exact h
    | «defer» d => exact h
    | enter f args => exact ⟨fun e => (by cases e), (CallsIn.inRound l0 (callsIn_wide.2 h)).mono fun e w'' he => by
        cases e with
        | returned v => exact he
        | panicked c => cases he.1
        | outgrown => exact (Norm.noOut he).elim⟩
    | row row args => exact ⟨fun e => (by cases e), rows_in rfl h⟩
    | round _ _ _ _ _ => exact h.elim
    | _ => exact h.elim
  | halt x w' => cases x <;> first | exact h.elim | cases h.1
theorem wpOpIn_of_wpOp {P : Program} {l : List Oper} {Q : Exit → Act → World → Prop} (l0 : Nat) (hnd : noDeferB l = true) {i : Nat} {K : Act → World → Prop} {a : Act} {w : World} (h : wpOp P l.toArray (Norm Q) i K a w) : wpOpIn (Fence.wide.inRound l0) 0 P l.toArray Q i K a w := by
  unfold wpOp at h
  unfold wpOpIn
  cases ho : l.toArray[i]? with
  | none => simpa [ho] using h
  | some o =>
    simp only [ho] at h ⊢
    by_cases hw : Region.wanted o (yielded l.toArray a.tmps) = true
    · rw [if_pos hw] at h ⊢
      rcases h with h | h
      · exact wpIn_of_wp l0 (noDeferB_at hnd (i := i) (by simpa using ho)) h
      · exact (Norm.noOut h.2).elim
    · rw [if_neg hw] at h ⊢
      exact ⟨fun _ _ => trivial, h⟩
theorem wpAnyIn_of_any {P : Program} {l : List Oper} {Q : Exit → Act → World → Prop} {md : Region.Mode} (l0 : Nat) (hnd : noDeferB l = true) : ∀ (fuel : Nat) (listed : Array Bool) (a : Act) (w : World), wpAny P md l.toArray (Norm Q) fuel listed a w → wpAnyIn (Fence.wide.inRound l0) 0 P md l.toArray Q fuel listed a w
  | 0, _, _, _, h => ⟨h.1, h.2.2⟩
  | fuel + 1, _, _, _, h => ⟨fun hr => (h.1 hr).2, fun i hi => wpOpIn_of_wpOp l0 hnd (wpOp_mono (fun a w => wpAnyIn_of_any l0 hnd fuel _ a w) (h.2 i hi))⟩

/-! ### Heads and tail -/
/-- Each operation of the tail comes behind each head. -/
def tailOB (l : List Oper) (n : Nat) : Bool := (List.range l.length).all fun i => decide (i < n) || (List.range n).all fun j => reachB l 20 i j
theorem tailB_spec {l : List Oper} {n : Nat} (h : tailOB l n = true) {i j : Nat} (hi : i < l.length) (hn : n ≤ i) (hj : j < n) : reachB l 20 i j = true := by
  have h1 := List.all_eq_true.1 h i (List.mem_range.2 hi)
  simp only [Bool.or_eq_true, decide_eq_true_eq] at h1
  rcases h1 with h1 | h1
  · omega
  · exact List.all_eq_true.1 h1 j (List.mem_range.2 hj)
theorem reachB_spec2 {l : List Oper} {L : Nat → Bool} (hc : ∀ (i : Nat) (o : Oper), l[i]? = some o → L i = true → ∀ e ∈ o.after, Region.binds .any e = true → L e.on = true) (f i j : Nat) (h : reachB l f i j = true) (hd : ∀ o, l[i]? = some o → ∀ e ∈ o.after, Region.binds .any e = true → L e.on = true) : L j = true := by
  cases f with
  | zero => cases h
  | succ f =>
    rw [reachB] at h
    cases e : l[i]? with
    | none => rw [e] at h; cases h
    | some o =>
      rw [e] at h
      simp only [Bool.or_eq_true, List.any_eq_true, Bool.and_eq_true] at h
      rcases h with h | ⟨k, _, h1, h2⟩
      · exact waitsB_spec h (hd o e)
      · exact reachB_spec hc f k j h2 (waitsB_spec h1 (hd o e))

theorem wpAny_heads {P : Program} {l : List Oper} {Q : Exit → Act → World → Prop} (n : Nat) (hn : n ≤ l.length) (he : earlierB .any l.toArray = true) (ht : tailOB l n = true)
    (hseq : Region.seqB .any l.toArray (l.length - n) n (((List.range l.length).map fun i => decide (i < n)).toArray) = true)
    (I : (Nat → Bool) → Act → World → Prop)
    (step : ∀ (L : Nat → Bool) (i : Nat) (o : Oper) (a : Act) (w : World), l[i]? = some o → i < n → L i = false → (∀ e ∈ o.after, Region.binds .any e = true → L e.on = true) → I L a w → wpOp P l.toArray Q i (I fun j => j == i || L j) a w)
    (fin : ∀ (L : Nat → Bool) (a : Act) (w : World), (∀ i, i < n → L i = true) → I L a w → wpList P l.toArray Q (l.drop n) a w) :
    ∀ (h : Nat) (listed : Array Bool) (a : Act) (w : World), listed.size = l.length → (listed.toList.take n).count false = h → (∀ i, n ≤ i → listed.getD i false = false) →
      (∀ (i : Nat) (o : Oper), l[i]? = some o → listed.getD i false = true → ∀ e ∈ o.after, Region.binds .any e = true → listed.getD e.on false = true) →
      I (fun j => listed.getD j false) a w → wpAny P .any l.toArray Q (h + (l.length - n)) listed a w := by
  intro h
  induction h with
  | zero =>
    intro listed a w hs hc htl hcl hI
    have hall : ∀ i, i < n → listed.getD i false = true := fun i hi => by
      rcases hb : listed.getD i false with _ | _
      · exfalso
        have hil : i < listed.size := by omega
        have e : listed[i] = false := by simpa [hil] using hb
        have hm : false ∈ listed.toList.take n := by
          rw [List.mem_take_iff_getElem]
          exact ⟨i, by simp; omega, by simpa using e⟩
        have := List.count_pos_iff.2 hm
        omega
      · rfl
    have hl : listed = ((List.range l.length).map fun i => decide (i < n)).toArray := by
      apply Array.ext
      · simp [hs]
      · intro i h1 h2
        simp only [List.getElem_toArray, List.getElem_map, List.getElem_range]
        by_cases q : i < n
        · have := hall i q
          simp only [q, decide_true]
          simpa [h1] using this
        · have := htl i (by omega)
          simp only [q, decide_false]
          simpa [h1] using this
    rw [Nat.zero_add]
    have hlen : (l.drop n).length = l.length - n := by simp
    rw [← hlen]
    refine wpAny_of_seq (l.drop n) n listed a w (fun j => by simp [List.getElem?_drop]) ?_ (fin _ a w hall hI)
    rw [hlen, hl]
    exact hseq
  | succ h ih =>
    intro listed a w hs hc htl hcl hI
    have hex : ∃ i, i < n ∧ listed.getD i false = false := by
      have hm : false ∈ listed.toList.take n := List.count_pos_iff.1 (by omega)
      rw [List.mem_take_iff_getElem] at hm
      obtain ⟨i, hi, e⟩ := hm
      have hi2 : i < n ∧ i < listed.size := by simp at hi; omega
      refine ⟨i, hi2.1, ?_⟩
      simp only [Array.getElem_toList] at e
      simp [hi2.2, e]
    have e1 : h + 1 + (l.length - n) = h + (l.length - n) + 1 := by omega
    rw [e1]
    refine ⟨fun hr => ?_, fun i hm => ?_⟩
    · exfalso
      obtain ⟨i, hi, hb⟩ := hex
      have := all_listed he (by simpa using hs) hr i (by simp; omega)
      rw [hb] at this
      cases this
    · rw [mem_ready] at hm
      obtain ⟨h1, o, ho, hd⟩ := hm
      have ho' : l[i]? = some o := by simpa using ho
      have hi : i < listed.size := by rw [hs]; exact (List.getElem?_eq_some_iff.1 ho').1
      have hL : listed.getD i false = false := by rw [← getD_flip hi]; exact h1
      have hin : i < n := by
        rcases Nat.lt_or_ge i n with q | q
        · exact q
        · exfalso
          obtain ⟨j, hj, hb⟩ := hex
          have := reachB_spec2 (L := fun k => listed.getD k false) hcl 20 i j (tailB_spec ht (by omega) q hj) (fun o' ho2 => by
            rw [ho'] at ho2
            obtain rfl := Option.some.inj ho2
            exact hd)
          rw [hb] at this
          cases this
      have hfun : (fun j => (listed.setIfInBounds i true).getD j false) = (fun j => j == i || listed.getD j false) := by
        funext j
        by_cases hj : j = i
        · subst hj
          simp [hi]
        · have : ¬ i = j := fun h => hj h.symm
          have hbq : (j == i) = false := by simpa using hj
          rw [hbq, Bool.false_or]
          simp only [Array.getD, Array.size_setIfInBounds]
          by_cases hj2 : j < listed.size
          · simp only [hj2, dite_true]
            exact Array.getElem_setIfInBounds_ne hj2 this
          · simp only [hj2, dite_false]
      refine wpOp_mono (fun a w hI' => ?_) (step (fun j => listed.getD j false) i o a w ho' hin hL hd hI)
      refine ih _ a w (by simpa using hs) ?_ ?_ ?_ (by rw [hfun]; exact hI')
      · have e : listed[i] = false := by simpa [hi] using hL
        rw [Array.toList_setIfInBounds, List.take_set]
        have hl : i < (listed.toList.take n).length := by simp; omega
        rw [List.count_set hl]
        have e2 : ((listed.toList.take n)[i] == false) = true := by simp [e]
        rw [if_pos e2, if_neg (by decide)]
        omega
      · intro j hj
        have h0 : (listed.setIfInBounds i true).getD j false = (j == i || listed.getD j false) := congrFun hfun j
        have h1 : (j == i) = false := by rw [beq_eq_false_iff_ne]; omega
        rw [h0, htl j hj, h1]
        rfl
      · intro k o' hk hLk e hee hbd
        have h2 : (listed.setIfInBounds i true).getD k false = (k == i || listed.getD k false) := congrFun hfun k
        have h3 : (listed.setIfInBounds i true).getD e.on false = (e.on == i || listed.getD e.on false) := congrFun hfun e.on
        rw [h2] at hLk
        rw [h3]
        by_cases q : k = i
        · subst q
          rw [ho'] at hk
          obtain rfl := Option.some.inj hk
          rw [hd e hee hbd, Bool.or_true]
        · have : (k == i) = false := by simpa using q
          rw [this, Bool.false_or] at hLk
          rw [hcl k o' hk hLk e hee hbd, Bool.or_true]

/-- The heads each yield a value of a kind, whatever the order is; then the tail. -/
theorem drawn_tail {P : Program} {l : List Oper} {Q : Exit → Act → World → Prop} {a0 : Act} {w : World} (n : Nat) (W : List Nat) (Ps : List (Value → World → Prop)) (he : earlierB .any l.toArray = true) (ht : tailOB l n = true)
    (hseq : Region.seqB .any l.toArray (l.length - n) n (((List.range l.length).map fun i => decide (i < n)).toArray) = true) (hW : okSlots a0.tmps.size (l.take n) W = true) (hn : W.Nodup) (hnl : n ≤ l.length)
    (hl : Ps.length = n) (mono : MonoL none n 0 Ps)
    (hf : ∀ (vs : List Value) (x : World), vs.length = W.length → w.grownBy x none → StepsL P Q none n (fun _ => True) l (layAll a0 W vs) vs x Ps 0 (l.take n) Ps)
    (fin : ∀ (vs : List Value) (x : World), vs.length = W.length → w.grownBy x none → (∀ (j : Nat) (p : Value → World → Prop), Ps[j]? = some p → p (vs.getD j undef) x) → wpList P l.toArray Q (l.drop n) (layAll a0 W vs) x) : wpAny P .any l.toArray Q l.toArray.size (Array.replicate l.toArray.size false) a0 w.drew := by
  obtain ⟨hlen, hat⟩ := okSlots_at hW
  have hlt : (l.take n).length = n := by simp; omega
  have key := wpAny_heads (P := P) (l := l) (Q := Q) n hnl he ht hseq (fun L a x => ∃ vs : List Value, vs.length = W.length ∧ a = layAll a0 W vs ∧ w.grownBy x none ∧ ∀ (j : Nat) (p : Value → World → Prop), Ps[j]? = some p → L j = true → p (vs.getD j undef) x) ?_ ?_ n (Array.replicate l.length false) a0 w.drew (by simp) ?_ ?_ ?_ ?_
  · have e : n + (l.length - n) = l.toArray.size := by simp; omega
    rw [e] at key
    simpa using key
  · rintro L i o a x ho hin hLi hdeps ⟨vs, hv, rfl, hg, hp⟩
    have hti : (l.take n)[i]? = some o := by rw [List.getElem?_take_of_lt hin]; exact ho
    obtain ⟨hgd, s, hs, hds⟩ := hat i o hti
    have hil : i < Ps.length := by omega
    have hpi : Ps[i]? = some Ps[i] := by simp [hil]
    have hwait : Waited Ps o vs x := fun j hj => by
      have hLj := waitsB_spec hj hdeps
      cases e : Ps[j]? with
      | none => rw [List.getD_eq_getElem?_getD, e]; exact True.intro
      | some p => rw [List.getD_eq_getElem?_getD, e]; exact hp j p e hLj
    have st := stepsL_at (hf vs x hv hg) i o Ps[i] hti hpi (fun a x => ∃ vs : List Value, vs.length = W.length ∧ a = layAll a0 W vs ∧ w.grownBy x none ∧ ∀ (j : Nat) (p : Value → World → Prop), Ps[j]? = some p → (j == i || L j) = true → p (vs.getD j undef) x) hwait (fun _ => True.intro) (fun v y hv2 hg2' => by
      have hg2 : x.grownBy y none := by
        revert hg2'
        split <;> exact id
      refine ⟨vs.set i v, by simp [hv], ?_, grow_trans hg hg2, ?_⟩
      · rw [layAll_set W vs a0 i s v hn hs hv]
        rcases hds with h | ⟨h, h2⟩
        · rw [h]
        · rw [h, put_out _ _ _ (by rw [layAll_size]; exact h2)]
          rfl
      · intro j p hj hL
        by_cases e : j = i
        · subst e
          rw [hpi] at hj
          obtain rfl := Option.some.inj hj
          have hiv : j < vs.length := by rw [hv, ← hlen, hlt]; exact hin
          rw [List.getD_eq_getElem?_getD, List.getElem?_set_self hiv]
          exact hv2
        · have hLj : L j = true := by
            have : (j == i) = false := by simpa using e
            rwa [this, Bool.false_or] at hL
          rw [List.getD_eq_getElem?_getD, List.getElem?_set_ne (fun h => e h.symm), ← List.getD_eq_getElem?_getD]
          refine monoL_at mono j p hj _ _ _ (hp j p hj hLj) ?_
          split <;> exact hg2)
    unfold wpOp
    have ho2 : l.toArray[i]? = some o := by simpa using ho
    simp only [ho2]
    rw [if_pos (by unfold Region.wanted; rw [hgd])]
    exact Or.inl st
  · rintro L a x hL ⟨vs, hv, rfl, hg, hp⟩
    exact fin vs x hv hg fun j p hj => hp j p hj (hL j (by
      have := (List.getElem?_eq_some_iff.1 hj).1
      omega))
  · simp
    omega
  · intro i _
    simp [Array.getD]
  · intro i o _ h
    simp [Array.getD] at h
  · refine ⟨W.map fun s => a0.tmps.getD s undef, by simp, ?_, grow_drew (grow_refl w none), fun j p _ h => by simp [Array.getD] at h⟩
    have : ∀ (W : List Nat) (a : Act), layAll a W (W.map fun s => a.tmps.getD s undef) = a := by
      intro W
      induction W with
      | nil => intro a; rfl
      | cons s W ih =>
        intro a
        have e : a.put (some s) (a.tmps.getD s undef) = a := by
          by_cases h : s < a.tmps.size
          · simp only [Act.put]
            have : a.tmps.setIfInBounds s (a.tmps.getD s undef) = a.tmps := by
              apply Array.ext_getElem?
              intro i
              by_cases q : s = i
              · subst q; simp [h]
              · rw [Array.getElem?_setIfInBounds_ne q]
            rw [this]
          · exact put_out _ _ _ (by omega)
        rw [List.map_cons, layAll, e]
        exact ih a
    exact (this W a0).symm

theorem wp_drawn_tail {P : Program} {l : List Oper} {Q : Exit → Act → World → Prop} {id : Nat} {a0 : Act} {w : World} (hm : P.follows .mixedOrders = true) (h : wpAny P .any l.toArray Q l.toArray.size (Array.replicate l.toArray.size false) a0 w.drew) : (Code.region id l.toArray true).wp P Q a0 w := wp_region_any hm h
theorem wp_drawn_round {P : Program} {l : List Oper} {Q : Exit → Act → World → Prop} {id : Nat} {a0 : Act} {w : World} (l0 : Nat) (hm : P.follows .mixedOrders = true) (hnd : noDeferB l = true) (h : wpAny P .any l.toArray (Norm Q) l.toArray.size (Array.replicate l.toArray.size false) a0 w.drew) : (Code.region id l.toArray true).wpIn (Fence.wide.inRound l0) 0 P Q a0 w :=
  wpIn_region_any hm (wpAnyIn_of_any l0 hnd _ _ _ _ h)
/-- A region of reads alone, or of reads and one tail, in a round. -/
theorem wp_still_round {P : Program} {l : List Oper} {Q : Exit → Act → World → Prop} {id : Nat} {a : Act} {w : World} (l0 n : Nat) (hm : P.follows .mixedOrders = true) (hnd : noDeferB l = true) (hB : Region.lexTailB .any l.toArray n = true)
    (h : wpStill P l.toArray w.drew (fun a' => wpList P l.toArray (Norm Q) (l.drop n) a' w.drew) (l.take n) a) : (Code.region id l.toArray true).wpIn (Fence.wide.inRound l0) 0 P Q a w := by
  refine wpIn_region_any hm (wpAnyIn_of_any l0 hnd _ _ _ _ ?_)
  simp only [Region.lexTailB, Bool.and_eq_true, decide_eq_true_eq] at hB
  obtain ⟨⟨⟨⟨hsel, hn⟩, hs⟩, hc⟩, hlex⟩ := hB
  have hn' : n < l.length := by simpa using hn
  have htl : (l.take n).length = n := by simp; omega
  have hdl : (l.drop n).length = l.toArray.size - n := by simp
  have inv0 : HeadInv .any l.toArray n (Array.replicate l.toArray.size false) :=
    ⟨by simp, fun j oj _ hl => (by rw [getD_replicate_false] at hl; cases hl), fun t _ ht => getD_in (by simpa using ht) (getD_replicate_false _ _)⟩
  have H := wpAnyL_lex (md := .any) (g := l.toArray.size - n) hsel hs hc hn (l.take n) 0 _ a (fun j hj => by
    have hj' : j < n := by rw [htl] at hj; exact hj
    simp [hj']) (by simpa using htl) inv0 (by rw [htl]; exact hlex) h
  have := wpAny_of_head (Q' := Norm Q) (g := l.toArray.size - n) (fun listed a' hL => by
    have := wpAny_of_seq (md := .any) (Q' := Norm Q) (l.drop n) n listed a' w.drew (fun j => by simp [List.getElem?_drop]) (by rw [hdl]; exact hL.1) hL.2
    rwa [hdl] at this) _ _ _ H
  rw [htl, show n + (l.toArray.size - n) = l.toArray.size by omega] at this
  exact this

end Go.Proofs.YtmomfbkpniblgaaGreatDoor

namespace Go.Proofs.YtmomfbkpniblgaaGreatDoor
open Go.RowKit
set_option linter.unusedVariables false

/-- What a word finds. -/
def lookV (r : Option (Nat × Value)) (z : Value) : Value :=
  match r with
  | some (_, v) => .tuple #[v, .bool true]
  | none => .tuple #[z, .bool false]

theorem wpList_put {P : Program} {w : World} {ops : Array Oper} {rest : List Oper} {o : Oper} {a : Act} {Q : Exit → Act → World → Prop} (hg : o.guard = none) (m x v : Operand) (t kt et : TypeId) (hop : o.op = Op.insert t m x v)
    (b : Nat) (es : Array MapEntry) (clock : Nat) (s : ByteArray) (val : Value) (hm : a.eval m = .map (some b)) (hx : a.eval x = .string s) (hv : a.eval v = val)
    (ht : P.underlying t = some (.map kt et)) (hk : P.underlying kt = some .string) (hb : w.heap[b]? = some (.map es clock)) (hf : Instr.findNow .string (.string s) es.toList 0 = some none)
    (hK : wpList P ops Q rest (a.put o.dst undef) (w.putObj b (.map (es.push { key := .string s, val := val, born := clock }) (clock + 1)))) : wpList P ops Q (o :: rest) a w := by
  have hc : (Instr.checkKey false 10000 kt (.string s)).run P w = .ok () w := MapKept.run_checkKey (k := .string s) hk (by simp [MapKept.IsKey]) false 9999
  have hrun : (Instr.mapUpdate t (.map (some b)) (.string s) val).run P w = .ok () (w.putObj b (.map (es.push { key := .string s, val := val, born := clock }) (clock + 1))) := by
    simp [Instr.mapUpdate, run_underlying ht, MapKept.run_getObj_map hb, hc, MapKept.run_findKey hk hf, MapKept.run_setObj_map _ hb, Result.andThen, World.putObj]
  refine wpList_plain hg fun K' hK' => ?_
  unfold Oper.wp
  simp [execOp, hop, hm, hx, hv, hrun, Result.andThen]
  exact hK' _ _ hK

theorem wpList_look {P : Program} {w : World} {ops : Array Oper} {rest : List Oper} {o : Oper} {a : Act} {Q : Exit → Act → World → Prop} (hg : o.guard = none) (m x : Operand) (t kt et : TypeId) (hop : o.op = Op.lookup t m x true)
    (b : Nat) (es : Array MapEntry) (clock : Nat) (s : ByteArray) (hm : a.eval m = .map (some b)) (hx : a.eval x = .string s)
    (ht : P.underlying t = some (.map kt et)) (hk : P.underlying kt = some .string) (hb : w.heap[b]? = some (.map es clock)) (r : Option (Nat × Value)) (hf : Instr.findNow .string (.string s) es.toList 0 = some r)
    (z : Value) (hz : (zeroValue et).run P w = .ok z w)
    (hK : wpList P ops Q rest (a.put o.dst (lookV r z)) w) : wpList P ops Q (o :: rest) a w := by
  have hc : (Instr.checkKey es.isEmpty 10000 kt (.string s)).run P w = .ok () w := MapKept.run_checkKey (k := .string s) hk (by simp [MapKept.IsKey]) es.isEmpty 9999
  have hrun : (Instr.lookup t (.map (some b)) (.string s) true).run P w = .ok (lookV r z) w := by
    cases r with
    | none => simp [lookV, Instr.lookup, run_underlying ht, MapKept.run_getObj_map hb, hc, MapKept.run_findKey hk hf, hz, Result.andThen]
    | some p => simp [lookV, Instr.lookup, run_underlying ht, MapKept.run_getObj_map hb, hc, MapKept.run_findKey hk hf, Result.andThen]
  refine wpList_plain hg fun K' hK' => ?_
  unfold Oper.wp
  simp [execOp, hop, hm, hx, hrun, Result.andThen]
  exact hK' _ _ hK

theorem run_look {P : Program} {w : World} (t kt et : TypeId) (b : Nat) (es : Array MapEntry) (clock : Nat) (s : ByteArray)
    (ht : P.underlying t = some (.map kt et)) (hk : P.underlying kt = some .string) (hb : w.heap[b]? = some (.map es clock)) (r : Option (Nat × Value)) (hf : Instr.findNow .string (.string s) es.toList 0 = some r)
    (z : Value) (hz : (zeroValue et).run P w = .ok z w) : (Instr.lookup t (.map (some b)) (.string s) true).run P w = .ok (lookV r z) w := by
  have hc : (Instr.checkKey es.isEmpty 10000 kt (.string s)).run P w = .ok () w := MapKept.run_checkKey (k := .string s) hk (by simp [MapKept.IsKey]) es.isEmpty 9999
  cases r with
  | none => simp [lookV, Instr.lookup, run_underlying ht, MapKept.run_getObj_map hb, hc, MapKept.run_findKey hk hf, hz, Result.andThen]
  | some p => simp [lookV, Instr.lookup, run_underlying ht, MapKept.run_getObj_map hb, hc, MapKept.run_findKey hk hf, Result.andThen]

theorem wpList_mkmap {P : Program} {w : World} {ops : Array Oper} {rest : List Oper} {o : Oper} {a : Act} {Q : Exit → Act → World → Prop} (hg : o.guard = none) (t : TypeId) (hop : o.op = Op.makeMap t none)
    (hK : wpList P ops Q rest (a.put o.dst (.map (some w.heap.size))) (w.alloc (.map #[] 0))) : wpList P ops Q (o :: rest) a w := by
  refine Go.Great.wpList_runTo hg _ rfl (.map (some w.heap.size)) _ ?_ hK
  simp [execOp, hop, run_makeMap_plain]

/-- The map of two words. -/
def twoE (k1 k2 : ByteArray) (v1 v2 : Value) : Array MapEntry := #[{ key := .string k1, val := v1, born := 0 }, { key := .string k2, val := v2, born := 1 }]
theorem size_put (w : World) (r : Nat) (o : Obj) : (w.putObj r o).heap.size = w.heap.size := by simp [World.putObj]
theorem alloc_lt (w : World) (o : Obj) : w.heap.size < (w.alloc o).heap.size := by rw [World.size_alloc]; omega
theorem two_heap (w : World) (e0 e1 e2 : Array MapEntry) : (((w.alloc (.map e0 0)).putObj w.heap.size (.map e1 1)).putObj w.heap.size (.map e2 2)).heap[w.heap.size]? = some (.map e2 2) := by
  refine World.putObj_heap_same ?_
  rw [size_put, World.size_alloc]
  omega
theorem two_grown (w : World) (e0 e1 e2 : Array MapEntry) : w.grownBy (((w.alloc (.map e0 0)).putObj w.heap.size (.map e1 1)).putObj w.heap.size (.map e2 2)) none :=
  grow_trans_new (grow_trans_new (World.grownBy_alloc w _ none) (grownBy_putObj' _ w.heap.size _) (Nat.le_refl _)) (grownBy_putObj' _ w.heap.size _) (Nat.le_refl _)

theorem wpList_world {P : Program} {ops : Array Oper} {rest : List Oper} {Q : Exit → Act → World → Prop} {a : Act} {X : World} (w : World) (b : Nat) {o : Obj} (h : ∀ x : World, x.heap[b]? = some o → w.grownBy x none → wpList P ops Q rest a x)
    (h1 : X.heap[b]? = some o) (h2 : w.grownBy X none) : wpList P ops Q rest a X := h X h1 h2

end Go.Proofs.YtmomfbkpniblgaaGreatDoor
