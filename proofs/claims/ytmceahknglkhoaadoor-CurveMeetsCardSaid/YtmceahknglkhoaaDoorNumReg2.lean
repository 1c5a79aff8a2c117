/- The law for regions of numbers, by lists. -/
import Derived.Test.YtmceahknglkhoaaDoorNumReg
namespace Go.Proofs.YtmceahknglkhoaaDoor
open Go.RowKit
set_option linter.unusedVariables false

def oldOf : Kd → Option (Nat × Nat × Nat × Nat)
  | .old p B u v => some (p, B, u, v)
  | _ => none

def OldOk (wb w : World) (a0 : Act) (W D : List Nat) (x : Nat × Nat × Nat × Nat) : Prop :=
  x.2.1 ∈ D ∧ x.2.1 < w.heap.size ∧ wb.heap.size ≤ x.2.1 ∧ x.1 ∉ W ∧ a0.tmps.getD x.1 undef = ptrTo x.2.1 ∧ NV w x.2.1 x.2.2.1

theorem nodup_filterMap_at : ∀ (ks : List Kd) (i j p B u v p' B' u' v' : Nat), ((ks.filterMap oldOf).map (·.2.1)).Nodup → ks[i]? = some (.old p B u v) → ks[j]? = some (.old p' B' u' v') → i ≠ j → B ≠ B'
  | [], i, j, _, _, _, _, _, _, _, _, _, h, _, _ => by simp at h
  | k :: ks, i, j, p, B, u, v, p', B', u', v', hn, h1, h2, hne => by
    have mem : ∀ (i p B u v : Nat), ks[i]? = some (.old p B u v) → B ∈ (ks.filterMap oldOf).map (·.2.1) := fun i p B u v h =>
      List.mem_map.2 ⟨(p, B, u, v), List.mem_filterMap.2 ⟨_, List.mem_of_getElem? h, rfl⟩, rfl⟩
    have tail : ((ks.filterMap oldOf).map (·.2.1)).Nodup := by
      rw [List.filterMap_cons] at hn
      split at hn
      · exact hn
      · rw [List.map_cons, List.nodup_cons] at hn
        exact hn.2
    match i, j, h1, h2, hne with
    | 0, 0, _, _, hne => exact absurd rfl hne
    | 0, j + 1, h1, h2, _ =>
      have e : k = .old p B u v := by simpa using h1
      subst e
      rw [List.filterMap_cons] at hn
      simp only [oldOf, List.map_cons, List.nodup_cons] at hn
      intro e
      subst e
      exact hn.1 (mem j p' B u' v' (by simpa using h2))
    | i + 1, 0, h1, h2, _ =>
      have e : k = .old p' B' u' v' := by simpa using h2
      subst e
      rw [List.filterMap_cons] at hn
      simp only [oldOf, List.map_cons, List.nodup_cons] at hn
      intro e
      subst e
      exact hn.1 (mem i p B u v (by simpa using h1))
    | i + 1, j + 1, h1, h2, hne => exact nodup_filterMap_at ks i j p B u v p' B' u' v' tail (by simpa using h1) (by simpa using h2) (by omega)

def FitsL (P : Program) (T : TypeId) (ops : Array Oper) (Q : Exit → Act → World → Prop) (wb w0 : World) (a0 : Act) (W D : List Nat) (ks : List Kd) : Nat → List Oper → List Kd → Prop
  | i, o :: l, k :: r => Fits P T ops Q wb w0 a0 W D ks i o k ∧ FitsL P T ops Q wb w0 a0 W D ks (i + 1) l r
  | _, _, _ => True
section
variable {P : Program} {T : TypeId} {ops : Array Oper} {Q : Exit → Act → World → Prop} {wb w0 : World} {a0 : Act} {W D : List Nat} {ks : List Kd}
theorem fitsL_cons {i : Nat} {o : Oper} {k : Kd} {l : List Oper} {r : List Kd} (h : Fits P T ops Q wb w0 a0 W D ks i o k) (t : FitsL P T ops Q wb w0 a0 W D ks (i + 1) l r) : FitsL P T ops Q wb w0 a0 W D ks i (o :: l) (k :: r) := ⟨h, t⟩
theorem fitsL_nil {i : Nat} : FitsL P T ops Q wb w0 a0 W D ks i [] [] := True.intro
theorem fitsL_spec : ∀ (l : List Oper) (r : List Kd) (n : Nat), FitsL P T ops Q wb w0 a0 W D ks n l r → ∀ (i : Nat) (o : Oper) (k : Kd), l[i]? = some o → r[i]? = some k → Fits P T ops Q wb w0 a0 W D ks (n + i) o k
  | [], _, _, _, i, _, _, h, _ => by simp at h
  | _ :: _, [], _, _, i, _, _, _, h => by simp at h
  | o :: l, k :: r, n, h, 0, o', k', h1, h2 => by
    obtain rfl : o = o' := by simpa using h1
    obtain rfl : k = k' := by simpa using h2
    exact h.1
  | o :: l, k :: r, n, h, i + 1, o', k', h1, h2 => by
    have := fitsL_spec l r (n + 1) h.2 i o' k' (by simpa using h1) (by simpa using h2)
    rwa [show n + 1 + i = n + (i + 1) from by omega] at this
end

theorem nums_region {l : List Oper} {b : Bool} {Q : Exit → Act → World → Prop} {id : Nat} {a0 : Act} {wb w : World} (W D : List Nat) (ks : List Kd) (os : List (Nat × Nat × Nat × Nat)) (hm : Tryd.prog.follows .mixedOrders = true)
    (hks : ks.length = l.length) (hk : okKinds W a0.tmps.size ks = true) (he : earlierB .any l.toArray = true) (hg : l.all (fun o => o.guard.isNone) = true)
    (hb : wb.grownBy w none) (eo : ks.filterMap oldOf = os) (ho : ∀ x ∈ os, OldOk wb w a0 W D x) (hn : (os.map (·.2.1)).Nodup)
    (hf : FitsL Tryd.prog 64 l.toArray Q wb w a0 W D ks 0 l ks)
    (fin : ∀ (vs : List Value) (w' : World), vs.length = W.length → Done wb w a0 W D l.toArray ks (putAll a0 W vs) w' → Q .normal (putAll a0 W vs) w') : (Code.region id l.toArray b).wp Tryd.prog Q a0 w := by
  subst eo
  have lies : ∀ (i p B u v : Nat), ks[i]? = some (.old p B u v) → OldOk wb w a0 W D (p, B, u, v) := fun i p B u v h => ho _ (List.mem_filterMap.2 ⟨_, List.mem_of_getElem? h, rfl⟩)
  have ol : Olds wb w a0 W D ks := ⟨hb.size, fun i p B u v h => by obtain ⟨h1, h2, h3, h4, h5, _⟩ := lies i p B u v h; exact ⟨h1, h2, h3, h4, h5⟩, fun i j p B u v p' B' u' v' => nodup_filterMap_at ks i j p B u v p' B' u' v' hn⟩
  have hf' : ∀ (i : Nat) (o : Oper) (k : Kd), l.toArray[i]? = some o → ks[i]? = some k → Fits Tryd.prog 64 l.toArray Q wb w a0 W D ks i o k := fun i o k h1 h2 => by
    have := fitsL_spec l ks 0 hf i o k (by simpa using h1) h2
    rwa [Nat.zero_add] at this
  cases b
  · exact plain_nums W D ks (by simpa using hks) hk ol he (by simpa using hg) hb (fun i p B u v h => (lies i p B u v h).2.2.2.2.2) hf' fin
  · exact region_nums W D ks (by simpa using hks) hk ol hm he (by simpa using hg) hb (fun i p B u v h => (lies i p B u v h).2.2.2.2.2) hf' fin

theorem follows_mixed : Tryd.prog.follows .mixedOrders = true := by kernel_rfl

theorem putAll_size : ∀ (W : List Nat) (vs : List Value) (a : Act), (putAll a W vs).tmps.size = a.tmps.size
  | [], _, _ => rfl
  | _ :: _, [], _ => rfl
  | s :: W, v :: vs, a => by
    rw [putAll, putAll_size W vs]
    simp [Act.put]
theorem putAll_out : ∀ (W : List Nat) (vs : List Value) (a : Act) (s : Nat), s ∉ W → (putAll a W vs).tmps.getD s undef = a.tmps.getD s undef
  | [], _, _, _, _ => rfl
  | _ :: _, [], _, _, _ => rfl
  | t :: W, v :: vs, a, s, h => by
    rw [putAll, putAll_out W vs _ s (fun e => h (by simp [e])), getD_put_ne _ _ _ _ (fun e => h (by simp [e]))]
theorem putAll_at : ∀ (W : List Nat) (vs : List Value) (a : Act) (j s : Nat), W.Nodup → W[j]? = some s → vs.length = W.length → s < a.tmps.size → (putAll a W vs).tmps.getD s undef = vs.getD j undef
  | [], _, _, _, _, _, h, _, _ => by simp at h
  | _ :: _, [], _, _, _, _, _, h, _ => by simp at h
  | t :: W, v :: vs, a, 0, s, hn, h, hl, hs => by
    obtain rfl : t = s := by simpa using h
    rw [putAll, putAll_out W vs _ t (List.nodup_cons.1 hn).1, getD_put_same _ _ _ hs]
    rfl
  | t :: W, v :: vs, a, j + 1, s, hn, h, hl, hs => by
    rw [putAll, putAll_at W vs _ j s (List.nodup_cons.1 hn).2 (by simpa using h) (by simpa using hl) (by simpa [Act.put] using hs)]
    rfl

theorem Done.new2 {wb w0 : World} {a0 : Act} {W D : List Nat} {ops : Array Oper} {ks : List Kd} {vs : List Value} {w : World} (h : Done wb w0 a0 W D ops ks (putAll a0 W vs) w) (hl : vs.length = W.length) (hn : W.Nodup) (hs : ∀ s ∈ W, s < a0.tmps.size)
    (i m p v j : Nat) (hi : ks[i]? = some (.sto m p v)) (hj : W[j]? = some p) : ∃ k, vs.getD j undef = ptrTo k ∧ w0.heap.size ≤ k ∧ NV w k v := by
  obtain ⟨k, e, h1, h2⟩ := (h.sto i m p v hi rfl).2.2
  rw [putAll_at W vs a0 j p hn hj hl (hs p (List.mem_of_getElem? hj))] at e
  exact ⟨k, e, h1, h2⟩
theorem Done.apart2 {wb w0 : World} {a0 : Act} {W D : List Nat} {ops : Array Oper} {ks : List Kd} {vs : List Value} {w : World} (h : Done wb w0 a0 W D ops ks (putAll a0 W vs) w) (hl : vs.length = W.length) (hn : W.Nodup) (hs : ∀ s ∈ W, s < a0.tmps.size)
    (i i' d d' j j' k k' : Nat) (hi : ks[i]? = some (.alc d)) (hi' : ks[i']? = some (.alc d')) (hne : i ≠ i') (hj : W[j]? = some d) (hj' : W[j']? = some d') (hk : vs.getD j undef = ptrTo k) (hk' : vs.getD j' undef = ptrTo k') : k ≠ k' := by
  have := h.apart i i' d d' hi hi' hne rfl rfl
  rw [putAll_at W vs a0 j d hn hj hl (hs d (List.mem_of_getElem? hj)), putAll_at W vs a0 j' d' hn hj' hl (hs d' (List.mem_of_getElem? hj')), hk, hk'] at this
  intro e
  rw [e] at this
  exact this rfl

section
variable {wb w0 : World} {a0 : Act} {W D : List Nat} {ops : Array Oper} {ks : List Kd} {a : Act} {w : World}
theorem Done.new (h : Done wb w0 a0 W D ops ks a w) (i m p v : Nat) (hi : ks[i]? = some (.sto m p v)) : ∃ k, a.tmps.getD p undef = ptrTo k ∧ w0.heap.size ≤ k ∧ NV w k v := (h.sto i m p v hi rfl).2.2
theorem Done.was (h : Done wb w0 a0 W D ops ks a w) (i p B u v : Nat) (hi : ks[i]? = some (.old p B u v)) : NV w B v := by simpa using h.old i p B u v hi
theorem Done.keep (h : Done wb w0 a0 W D ops ks a w) {B v : Nat} (hv : NV w0 B v) (hB : B ∉ D) : NV w B v := hv.keptBut h.kept hB
end

end Go.Proofs.YtmceahknglkhoaaDoor
