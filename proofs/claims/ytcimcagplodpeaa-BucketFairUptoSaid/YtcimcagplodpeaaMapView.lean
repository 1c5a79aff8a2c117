/- A map from 32-bit numbers to integers, seen as a function. -/
import Derived.Maps.RangeWalk
import Derived.Maps.Ext
import Derived.Lib.SlMapFilter
import Derived.OpenShut
namespace Go.Proofs.Ytcimcagplodpeaa
open Go Go.Maps Go.ChangeMaps Go.RowKit
open Go.WideElems (Fit rd rg pl rd_key rd_val rg_of other_key)
set_option linter.unusedVariables false

abbrev Dm := DataW Unit
def ky (x : Nat) : Lit := .int .u32 (x : Int)
def nm (c : Int) : Dm := .lit (.int .i64 c)

/-- The map, as read, is this function on 32-bit numbers. -/
def Rep (D : Dm) (m : Nat → Option Int) : Prop := ∀ x, x < 4294967296 → Maps.has D (ky x) = (m x).isSome ∧ ∀ c, m x = some c → ∀ z, D.atKey (ky x) z = nm c

theorem ky_isKey {x : Nat} (h : x < 4294967296) : WideAt.IsKeyLit (ky x) := trivial

theorem ky_ne {x y : Nat} (h : x ≠ y) : ky x ≠ ky y := by
  intro e
  apply h
  unfold ky at e
  injection e with e1 e2
  omega

theorem ky_same {x y : Nat} (h : x < 4294967296) : (ky x).sameKey (ky y) = decide (x = y) := by
  by_cases e : x = y
  · subst e
    rw [WideAt.sameKey_self (ky_isKey h)]
    simp
  · rw [Maps.sameKey_ne (ky_ne e)]
    simp [e]

def upd (m : Nat → Option Int) (x : Nat) (v : Option Int) : Nat → Option Int := fun y => if y = x then v else m y

theorem rep_empty : Rep (.map []) (fun _ => none) := fun x _ => ⟨rfl, fun c h => by cases h⟩

theorem rep_put {D : Dm} {m : Nat → Option Int} (h : Rep D m) (hD : IsMap D) {x : Nat} (hx : x < 4294967296) (c : Int) : Rep (D.put (ky x) (nm c)) (upd m x (some c)) := by
  intro y hy
  unfold upd
  by_cases e : y = x
  · subst e
    rw [if_pos rfl, has_put_same hD (ky_isKey hx)]
    refine ⟨rfl, fun c' hc z => ?_⟩
    cases hc
    exact atKey_put_same hD (ky_isKey hx) _ _
  · rw [if_neg e, has_put_other (ky_ne e)]
    refine ⟨(h y hy).1, fun c' hc z => ?_⟩
    rw [atKey_put_other (ky_ne e)]
    exact (h y hy).2 c' hc z

/-- What every map of the call's own is. -/
def Good (D : Dm) : Prop := ∃ es, D = .map es ∧ es.Pairwise (fun p q => p.1 ≠ q.1) ∧ ∀ p ∈ es, ∃ (x : Nat) (c : Int), x < 4294967296 ∧ p = (ky x, nm c)

theorem good_of {P : Program} {k e : TypeId} {w : World} {b n : Nat} {D : Dm} (h : w.ownsMap P k (plainElem P e) b n D) (hk : P.underlying k = some (.int .u32)) (he : P.underlying e = some (.int .i64)) : Good D := by
  obtain ⟨es0, e0, hap, _⟩ := h.entries (int_keyed hk)
  refine ⟨es0, e0, hap, fun p hp => ?_⟩
  obtain ⟨es, clock, _, F, _, hD⟩ := h
  rw [e0] at hD
  injection hD with hD
  rw [hD] at hp
  obtain ⟨x, hx, rfl⟩ := List.mem_map.1 (mem_sorted.1 hp)
  obtain ⟨y, hy⟩ := F.reads x hx
  obtain ⟨a, h1, h2, h3⟩ := Maps.keyOf_int_inv hk (rd_key hy)
  obtain ⟨z, hz, hzd⟩ := rd_val hy
  obtain ⟨c, h4, h5, h6⟩ := plainElem_int_inv he hz
  have hb := bounds_u32 h3
  refine ⟨a.toNat, c, by omega, ?_⟩
  rw [rg_of hy]
  refine Prod.ext ?_ ?_
  · show y.1 = ky a.toNat
    rw [h2]
    unfold ky
    rw [Int.toNat_of_nonneg (by omega)]
  · show _ = nm c
    rw [hzd, h5]
    rfl

theorem rep_filter {D : Dm} {m : Nat → Option Int} (h : Rep D m) (g : Good D) (pd : Lit → Dm → Bool) (hpd : ∀ l c, pd l (nm c) = decide (5 ≤ c)) : Rep (Lib.deleteFuncD pd D) (fun x => (m x).filter fun c => decide (c < 5)) := by
  obtain ⟨es, rfl, hap, hsh⟩ := g
  intro x hx
  obtain ⟨h1, h2⟩ := h x hx
  have hk := ky_isKey hx
  cases hm : m x with
  | none =>
    rw [hm] at h1
    refine ⟨?_, fun c hc => by simp [hm] at hc⟩
    simp only [hm, Option.filter_none, Option.isSome_none] at h1 ⊢
    rw [Maps.has_eq, List.any_eq_false] at h1
    show Maps.has (.map (es.filter _)) _ = _
    rw [Maps.has_eq, List.any_eq_false]
    exact fun p hp => h1 p (List.mem_filter.1 hp).1
  | some c =>
    rw [hm] at h1
    have h3 := h2 c hm
    obtain ⟨p, hp, hpk⟩ := List.any_eq_true.1 h1
    have e1 := WideAt.sameKey_eq hpk
    have e2 : p.2 = nm c := by
      have := WideAt.atKey_mem .nil hk hap (d := p.2) (by rw [← e1]; exact hp)
      rw [← this]
      exact h3 .nil
    have e3 : p = (ky x, nm c) := Prod.ext e1 e2
    subst e3
    show Maps.has (.map (es.filter fun p => !pd p.1 p.2)) _ = _ ∧ ∀ c', _ → ∀ z, (DataW.map (es.filter fun p => !pd p.1 p.2)).atKey _ z = _
    by_cases hc : c < 5
    · have hmem : (ky x, nm c) ∈ es.filter fun p => !pd p.1 p.2 := List.mem_filter.2 ⟨hp, by simp [hpd]; omega⟩
      refine ⟨?_, fun c' hc' z => ?_⟩
      · rw [Maps.has_eq]
        simp only [hm, Option.filter_some, hc, decide_true, if_true, Option.isSome_some]
        exact List.any_eq_true.2 ⟨_, hmem, WideAt.sameKey_self hk⟩
      · simp only [hm, Option.filter_some, hc, decide_true, if_true] at hc'
        cases hc'
        exact WideAt.atKey_mem z hk (hap.filter _) hmem
    · refine ⟨?_, fun c' hc' z => by simp [hm, Option.filter_some, hc] at hc'⟩
      simp only [hm, Option.filter_some, hc, decide_false, Bool.false_eq_true, if_false, Option.isSome_none]
      rw [Maps.has_eq, List.any_eq_false]
      intro q hq hqk
      obtain ⟨q1, q2⟩ := List.mem_filter.1 hq
      have e1 := WideAt.sameKey_eq hqk
      have e2 : q.2 = nm c := by
        have := WideAt.atKey_mem .nil hk hap (d := q.2) (by rw [← e1]; exact q1)
        rw [← this]
        exact h3 .nil
      rw [e2, hpd] at q2
      simp at q2
      omega

theorem length_le_of_nodup {α : Type} [DecidableEq α] : ∀ {l r : List α}, l.Nodup → (∀ x ∈ l, x ∈ r) → l.length ≤ r.length
  | [], _, _, _ => by simp
  | a :: l, r, hn, hs => by
    obtain ⟨ha, hn⟩ := List.nodup_cons.1 hn
    have hr : a ∈ r := hs a (by simp)
    have := length_le_of_nodup (l := l) (r := r.erase a) hn fun x hx => (List.mem_erase_of_ne (fun e => by subst e; exact ha hx)).2 (hs x (by simp [hx]))
    rw [List.length_erase_of_mem hr] at this
    have hp : 0 < r.length := List.length_pos_of_mem hr
    simp only [List.length_cons]
    omega

theorem keys_of {D : Dm} (g : Good D) : ∃ Ks : List Nat, Ks.Nodup ∧ Maps.size D = Ks.length ∧ (∀ x ∈ Ks, x < 4294967296) ∧ ∀ x, x < 4294967296 → (Maps.has D (ky x) = true ↔ x ∈ Ks) := by
  obtain ⟨es, rfl, hap, hsh⟩ := g
  have key : ∀ es : List (Lit × Dm), es.Pairwise (fun p q => p.1 ≠ q.1) → (∀ p ∈ es, ∃ (x : Nat) (c : Int), x < 4294967296 ∧ p = (ky x, nm c)) → ∃ Ks : List Nat, Ks.Nodup ∧ es.length = Ks.length ∧ (∀ x ∈ Ks, x < 4294967296) ∧ ∀ x, x < 4294967296 → (es.any (fun p => p.1.sameKey (ky x)) = true ↔ x ∈ Ks) := by
    intro es hap hsh
    induction es with
    | nil => exact ⟨[], List.nodup_nil, rfl, by simp, fun x _ => by simp⟩
    | cons p es ih =>
      obtain ⟨h1, h2⟩ := List.pairwise_cons.1 hap
      obtain ⟨Ks, k1, k2, k4, k3⟩ := ih h2 fun q hq => hsh q (by simp [hq])
      obtain ⟨x, c, hx, rfl⟩ := hsh p (by simp)
      refine ⟨x :: Ks, List.nodup_cons.2 ⟨fun hm => ?_, k1⟩, by simp [k2], fun y hy => ?_, fun y hy => ?_⟩
      · obtain ⟨q, hq, hqk⟩ := List.any_eq_true.1 ((k3 x hx).2 hm)
        exact h1 q hq (WideAt.sameKey_eq hqk).symm
      · rcases List.mem_cons.1 hy with rfl | h
        · exact hx
        · exact k4 y h
      · rw [List.any_cons, ky_same hx, Bool.or_eq_true, k3 y hy, decide_eq_true_eq, List.mem_cons]
        constructor
        · rintro (h | h)
          · exact Or.inl h.symm
          · exact Or.inr h
        · rintro (h | h)
          · exact Or.inl h.symm
          · exact Or.inr h
  exact key es hap hsh

/-- No more entries than these. -/
theorem size_le_of {D : Dm} {m : Nat → Option Int} (g : Good D) (h : Rep D m) (Ls : List Nat) (hL : ∀ x, x < 4294967296 → (m x).isSome = true → x ∈ Ls) : Maps.size D ≤ Ls.length := by
  obtain ⟨Ks, k1, k2, k4, k3⟩ := keys_of g
  rw [k2]
  exact length_le_of_nodup k1 fun x hx => hL x (k4 x hx) (by rw [← (h x (k4 x hx)).1]; exact (k3 x (k4 x hx)).2 hx)

theorem size_ge_of {D : Dm} {m : Nat → Option Int} (g : Good D) (h : Rep D m) (Ls : List Nat) (hn : Ls.Nodup) (hL : ∀ x ∈ Ls, x < 4294967296 ∧ (m x).isSome = true) : Ls.length ≤ Maps.size D := by
  obtain ⟨Ks, k1, k2, k4, k3⟩ := keys_of g
  rw [k2]
  exact length_le_of_nodup hn fun x hx => (k3 x (hL x hx).1).1 (by rw [(h x (hL x hx).1).1]; exact (hL x hx).2)

/-- The loop that adds to all: who is still to come holds what it held. -/
def added (m : Nat → Option Int) (more : Int) (left : Lit → Bool) : Nat → Option Int := fun x => (m x).map fun c => if left (ky x) = true then c else c + more

theorem rep_start {D : Dm} {m : Nat → Option Int} (h : Rep D m) (more : Int) : Rep D (added m more (Maps.has D)) := by
  intro x hx
  obtain ⟨h1, h2⟩ := h x hx
  unfold added
  refine ⟨by rw [h1]; cases m x <;> rfl, fun c hc z => ?_⟩
  cases hm : m x with
  | none => simp [hm] at hc
  | some d =>
    rw [hm] at h1 hc
    simp [h1] at hc
    rw [← hc]
    exact h2 d hm z

theorem rep_step {D : Dm} {m : Nat → Option Int} {more : Int} {left : Lit → Bool} (h : Rep D (added m more left)) (hD : IsMap D) {x : Nat} (hx : x < 4294967296) (hl : left (ky x) = true) {c : Int} (hm : m x = some c) :
    Rep (D.put (ky x) (nm (c + more))) (added m more fun z => left z && !z.sameKey (ky x)) := by
  have h1 := rep_put h hD hx (c + more)
  have e : upd (added m more left) x (some (c + more)) = added m more fun z => left z && !z.sameKey (ky x) := by
    funext y
    unfold upd added
    by_cases e : y = x
    · subst e
      rw [if_pos rfl, hm]
      simp [ky_same hx]
    · rw [if_neg e]
      have : (ky y).sameKey (ky x) = false := Maps.sameKey_ne (ky_ne e)
      simp [this]
  rw [← e]
  exact h1

theorem rep_end {D : Dm} {m : Nat → Option Int} {more : Int} {left : Lit → Bool} (h : Rep D (added m more left)) (hl : ∀ kl, left kl = false) : Rep D (fun x => (m x).map (· + more)) := by
  have e : added m more left = fun x => (m x).map (· + more) := by
    funext x
    unfold added
    simp [hl]
  rw [← e]
  exact h

end Go.Proofs.Ytcimcagplodpeaa
