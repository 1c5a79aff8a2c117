/- A range over a function whose rounds never leave: the law that this program's walks use. No function of the program. -/
import Derived.RangeFuncNested
import Derived.RangeFuncBound
import Derived.RangeFuncCalls
import Derived.RangeFuncLeaves
import Derived.Shelf.Abstract
import Derived.WalkKit
namespace Go.Proofs.Ytbkgfpebffmffaa
open Go.RowKit
set_option linter.unusedVariables false

/-- Blocks of a kind lie as they lay. -/
def KeepPt (Pt : Obj → Prop) (W W' : World) : Prop := ∀ (r : Nat) (o : Obj), W.heap[r]? = some o → Pt o → W'.heap[r]? = some o
theorem KeepPt.refl (Pt : Obj → Prop) (W : World) : KeepPt Pt W W := fun _ _ h _ => h
theorem KeepPt.trans {Pt : Obj → Prop} {A B C : World} (h : KeepPt Pt A B) (k : KeepPt Pt B C) : KeepPt Pt A C := fun r o hr hp => k r o (h r o hr hp) hp
theorem KeepPt.grown {Pt : Obj → Prop} {A B : World} {row : Option Nat} (h : A.grownBy B row) (hn : ∀ r o, row = some r → A.heap[r]? = some o → ¬ Pt o) : KeepPt Pt A B := fun r o hr hp =>
  (h.block r (Array.getElem?_eq_some_iff.1 hr).1 (fun e => hn r o e.symm hr hp)).trans hr
/-- What abides a change of one block of a kind, from B on, and new blocks. -/
def OwnT {β : Type} (B : Nat) (Pt : Obj → Prop) (I : β → World → Prop) : Prop :=
  ∀ s W W' row, I s W → W.grownBy W' row → (∀ r, row = some r → B ≤ r ∧ ∃ o : Obj, W.heap[r]? = some o ∧ Pt o) → I s W'
theorem OwnT.new {β : Type} {B : Nat} {Pt : Obj → Prop} {I : β → World → Prop} (h : OwnT B Pt I) {s : β} {W W' : World} (hs : I s W) (hg : W.grownBy W' none) : I s W' := h s W W' none hs hg (fun r e => by cases e)
theorem OwnT.putObj {β : Type} {B : Nat} {Pt : Obj → Prop} {I : β → World → Prop} (h : OwnT B Pt I) {s : β} {W : World} {l : Nat} {o : Obj} (o' : Obj) (hs : I s W) (hB : B ≤ l) (hl : W.heap[l]? = some o) (ho : Pt o) : I s (W.putObj l o') :=
  h s W _ (some l) hs (grownBy_putObj' W l o') (fun r e => by cases e; exact ⟨hB, o, hl, ho⟩)

/-- What an iterator does that yields the list L, one by one, whatever the rounds do that keep R and its own blocks (Pt). -/
def SeqAll {α : Type} (P : Program) (g : Nat) (la lb : Array Value) (encs : α → Array Value) (L : List α) (Pt : Obj → Prop) (R : List α → World → Prop) (w : World) : Prop :=
  ∀ (l : Nat) (J : List α → World → Prop) (W : World), Below w.heap.size w W → OwnT w.heap.size Pt J → (∀ pre W1, J pre W1 → R pre W1) →
    (∀ pre x rest W1, L = pre ++ x :: rest → J pre W1 → YieldAt Fence.wide 0 P l (encs x) W1 fun e W' => e = .returned (.bool true) ∧ J (pre ++ [x]) W' ∧ KeepPt Pt W1 W') →
    J [] W → Calls P g (la ++ #[.func (.yield l) #[] #[]] ++ lb) W fun e W' => (∃ v, e = .returned v) ∧ J L W'

/-- How a round is left: by its end alone. -/
def allPost {α : Type} (Pt : Obj → Prop) (B : Nat) (I : List α → World → Prop) (xs : List α) (W : World) : Exit → Act → World → Prop
  | .normal, _, W' => KeepsFrom B W W' ∧ KeepPt Pt W W' ∧ I xs W'
  | .ret, _, _ => False
  | .exit _, _, _ => False
  | .goto _, _, _ => False
  | .panic _, _, _ => False
  | .outgrown, _, _ => False

theorem wp_rangeFunc_all {α : Type} {P : Program} {g : Operand} {ps : Array Tmp} {assign body : Code} {Q : Exit → Act → World → Prop} {a : Act} {w : World}
    {gf : Nat} {la lb : Array Value} (hg : a.eval g = .func (.func gf) la lb) (eg : ∀ args w, (callFunc gf args).run P w = .ok (.enter gf args) w)
    {encs : α → Array Value} {L : List α} {Pt : Obj → Prop} (hPt : ∀ o, Pt o → o.isCells = true) {R : List α → World → Prop} (hseq : SeqAll P gf la lb encs L Pt R w) (hps : ∀ x, (encs x).size = ps.size)
    (I : List α → World → Prop) (hI : OwnT w.heap.size (fun o => o.isCells = false ∨ Pt o) I) (hIR : ∀ pre W, I pre W → R pre W) (h0 : I [] w)
    (Ax : α → Act → World → Prop) (hAx : ∀ x a W l o o', Ax x a W → W.heap[l]? = some o → o.isCells = false → Ax x a (W.putObj l o'))
    (hassign : ∀ (l : Nat) (pre : List α) (x : α) (W : World) (K : Act → World → Prop), I pre W → (∀ a₁ W1, W.grownBy W1 none → Ax x a₁ W1 → K a₁ W1) →
      assign.wpIn (Fence.wide.inRound l) 0 P (Exit.then K (fun _ _ _ => False)) { tmps := (ps.zip (encs x)).foldl (fun t (p, v) => t.setIfInBounds p v) a.tmps, defers := [] } W)
    (hbody : ∀ (l : Nat) (pre : List α) (x : α) (rest : List α) (a₁ : Act) (W : World), L = pre ++ x :: rest → Ax x a₁ W → I pre W → body.wpIn (Fence.wide.inRound l) 0 P (allPost Pt w.heap.size I (pre ++ [x]) W) a₁ W)
    (hdone : ∀ (D : Nat) (W : World), w.heap.size ≤ D → I L W → W.heap[D]? = some (.deferred (some [])) → Q .normal { a with defers := { target := .collected D, args := #[] } :: a.defers } W) :
    (Code.rangeFunc g ps assign body).wp P Q a w := by
  refine (wpIn_wide (n := 1)).1 (wpIn_rangeFunc ?_)
  intro fn hfn
  obtain ⟨rec, hrec⟩ : ∃ rec : LoopState → Loop, rec = fun st => { state := st, pending := none, fn, tmps := a.tmps, params := ps, assign, body, defers := w.heap.size } := ⟨_, rfl⟩
  obtain ⟨W1, hW1⟩ : ∃ W1, (w.alloc (.deferred (some []))).alloc (.loop (rec .ready)) = W1 := ⟨_, rfl⟩
  have hL1 : W1.heap[w.heap.size + 1]? = some (.loop (rec .ready)) := by
    rw [← hW1]
    have := World.alloc_heap_new (w.alloc (.deferred (some []))) (.loop (rec .ready))
    rwa [World.size_alloc] at this
  have hD1 : W1.heap[w.heap.size]? = some (.deferred (some [])) := by
    rw [← hW1]
    exact (Below.heap_alloc _ _ _ (by simp)).trans (World.alloc_heap_new w _)
  have hI1 : I [] W1 := by
    rw [← hW1]
    exact hI.new (hI.new h0 (World.grownBy_alloc w _ none)) (World.grownBy_alloc _ _ none)
  have hb1 : Below w.heap.size w W1 := by
    rw [← hW1]
    exact ((Below.refl _ w).alloc (Nat.le_refl _) _).alloc (by simp) _
  refine ⟨w.heap.size + 1, [{ target := .collected w.heap.size, args := #[] }], W1, { target := .fn (.func gf) lb, args := la ++ #[.func (.yield (w.heap.size + 1)) #[] #[]] }, W1, gf,
    la ++ #[.func (.yield (w.heap.size + 1)) #[] #[]] ++ lb, W1, ?_, ?_, fun _ _ => trivial, ?_, fun _ => Nat.le_refl 1, ?_⟩
  · rw [← hW1, hrec]
    exact run_enterLoop_outer _ _ _ _ _
  · simp only [resolve, hg]
    simp [go_sem]
  · simp [invoke, go_sem, eg]
  refine callsIn_wide.2 ((hseq (w.heap.size + 1) (fun pre W => I pre W ∧ W.heap[w.heap.size + 1]? = some (.loop (rec .ready)) ∧ W.heap[w.heap.size]? = some (.deferred (some []))) W1 hb1 ?_ (fun pre W h => hIR pre W h.1) ?_ ⟨hI1, hL1, hD1⟩).mono ?_)
  · intro s A B row ⟨hs, hl, hk⟩ hg hr
    have keep : ∀ (k : Nat) (o : Obj), o.isCells = false → A.heap[k]? = some o → B.heap[k]? = some o := fun k o ho hk => (hg.block k (Array.getElem?_eq_some_iff.1 hk).1 (fun e => by
      obtain ⟨_, o', h1, h2⟩ := hr k e.symm
      rw [hk] at h1
      cases h1
      rw [hPt _ h2] at ho
      cases ho)).trans hk
    exact ⟨hI s A B row hs hg (fun r e => (hr r e).imp id fun ⟨o, h⟩ => ⟨o, h.1, .inr h.2⟩), keep _ _ rfl hl, keep _ _ rfl hk⟩
  · rintro pre x rest W hx ⟨hi, hl, hk⟩
    have hlt : w.heap.size + 1 < W.heap.size := (Array.getElem?_eq_some_iff.1 hl).1
    have hy := run_yield (P := P) (args := encs x) hl (by rw [hrec]; exact hps x)
    rw [hrec] at hy
    refine ⟨fn, _, assign, body, hy, roundIn_of_wpIn hfn (hassign _ pre x W _ hi fun a1 Wa hga hax => ?_)⟩
    have hia := hI.new hi hga
    have hla : Wa.heap[w.heap.size + 1]? = some (.loop (rec .ready)) := (hga.block _ hlt (by simp)).trans hl
    have hka : Wa.heap[w.heap.size]? = some (.deferred (some [])) := (hga.block _ (by omega) (by simp)).trans hk
    have hpa : KeepPt Pt W Wa := KeepPt.grown hga (fun r o e => by cases e)
    have hlta : w.heap.size + 1 < Wa.heap.size := Nat.lt_of_lt_of_le hlt hga.size
    refine ⟨_, run_beginRound hla (by rw [hrec]), ?_⟩
    have hl2 : (Wa.putObj (w.heap.size + 1) (.loop { rec .ready with state := .busy })).heap[w.heap.size + 1]? = some (.loop { rec .ready with state := .busy }) := World.putObj_heap_same hlta
    have hk2 : (Wa.putObj (w.heap.size + 1) (.loop { rec .ready with state := .busy })).heap[w.heap.size]? = some (.deferred (some [])) := (World.putObj_heap_other (by omega)).trans hka
    refine wpIn_mono (hbody _ pre x rest a1 _ hx (hAx _ _ _ _ _ _ hax hla rfl) (hI.putObj _ hia (by omega) hla (.inl rfl))) ?_
    rintro e a3 W3 hp
    cases e with
    | normal =>
      obtain ⟨hk3, hp3, hi3⟩ := hp
      have hl3 := hk3.same _ _ (by omega) hl2 rfl
      have hk4 := hk3.same _ _ (Nat.le_refl _) hk2 rfl
      have hr := run_endRound (P := P) none hl3
      rw [hrec] at hr hl3 ⊢
      refine ⟨_, _, hr, rfl, ⟨hI.putObj _ hi3 (by omega) hl3 (.inl rfl), World.putObj_heap_same (Array.getElem?_eq_some_iff.1 hl3).1, (World.putObj_heap_other (by omega)).trans hk4⟩, ?_⟩
      have put : ∀ (A : World) (o o' : Obj), A.heap[w.heap.size + 1]? = some o → o.isCells = false → KeepPt Pt A (A.putObj (w.heap.size + 1) o') := fun A o o' h1 h2 => KeepPt.grown (grownBy_putObj' A _ o') (fun r o2 e h3 h4 => by
        cases e
        rw [h1] at h3
        cases h3
        rw [hPt _ h4] at h2
        cases h2)
      exact ((hpa.trans (put _ _ _ hla rfl)).trans hp3).trans (put _ _ _ hl3 rfl)
    | ret => exact hp.elim
    | exit id => exact hp.elim
    | goto t => exact hp.elim
    | panic ch => exact hp.elim
    | outgrown => exact hp.elim
  · rintro e W2 ⟨⟨v, rfl⟩, hi, hl, hk⟩
    refine ⟨none, _, by have := run_endLoop (P := P) hl (by rw [hrec]; simp); rw [hrec] at this; exact this, ?_⟩
    exact hdone _ _ (Nat.le_refl _) (hI.putObj _ hi (by omega) hl (.inl rfl)) ((World.putObj_heap_other (by omega)).trans hk)

end Go.Proofs.Ytbkgfpebffmffaa
