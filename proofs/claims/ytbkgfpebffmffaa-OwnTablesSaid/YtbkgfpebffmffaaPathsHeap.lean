/- The table of prefixes in memory. -/
import Derived.Test.YtbkgfpebffmffaaPathsPlain
import Derived.Test.YtbkgfpebffmffaaRow
namespace Go.Proofs.Ytbkgfpebffmffaa
open Go.RowKit
set_option linter.unusedVariables false

/-- Whose, from marks and owners. -/
def ownO (M : Pf → Bool) (V : Pf → Int) : Own := fun p => if M p then some (V p) else none
def ptrN (o : Option Nat) : Value := .pointer (o.map fun b => ⟨b, 0, none⟩)
def nodeC (N : Pf → Option Nat) (M : Pf → Bool) (V : Pf → Int) (p : Pf) : List Value := [ptrN (N (p ++ [false])), ptrN (N (p ++ [true])), .bool (M p), .int .i64 (V p)]
/-- A node in its block: the root's block is the table's. -/
def NodeIn (w : World) (tb : Nat) (N : Pf → Option Nat) (M : Pf → Bool) (V : Pf → Int) (many : Nat) (p : Pf) (b : Nat) : Prop :=
  if p = [] then Blk w b 57 (nodeC N M V p ++ [.int .i64 (many : Int)]) else Blk w b 55 (nodeC N M V p)
structure Tree (w : World) (tb : Nat) (N : Pf → Option Nat) (M : Pf → Bool) (V : Pf → Int) (many : Nat) : Prop where
  root : N [] = some tb
  inj : ∀ p q b, N p = some b → N q = some b → p = q
  pre : ∀ p c, N p = none → N (p ++ [c]) = none
  len : ∀ p b, N p = some b → p.length ≤ 32
  mark : ∀ p, M p = true → N p ≠ none
  val : ∀ p, 0 ≤ V p ∧ V p < 8
  blk : ∀ p b, N p = some b → NodeIn w tb N M V many p b

theorem NodeIn.cells {w : World} {tb : Nat} {N : Pf → Option Nat} {M : Pf → Bool} {V : Pf → Int} {many : Nat} {p : Pf} {b : Nat} (h : NodeIn w tb N M V many p b) :
    w.cell? ⟨b, 0, none⟩ = some (ptrN (N (p ++ [false]))) ∧ w.cell? ⟨b, 1, none⟩ = some (ptrN (N (p ++ [true]))) ∧ w.cell? ⟨b, 2, none⟩ = some (.bool (M p)) ∧ w.cell? ⟨b, 3, none⟩ = some (.int .i64 (V p)) := by
  unfold NodeIn at h
  split at h
  · exact ⟨Blk.cell h 0, Blk.cell h 1, Blk.cell h 2, Blk.cell h 3⟩
  · exact ⟨Blk.cell h 0, Blk.cell h 1, Blk.cell h 2, Blk.cell h 3⟩
theorem NodeIn.frozen {w : World} {tb : Nat} {N : Pf → Option Nat} {M : Pf → Bool} {V : Pf → Int} {many : Nat} {p : Pf} {b : Nat} (h : NodeIn w tb N M V many p b) (i : Nat) : w.frozen? ⟨b, i, none⟩ = false := by
  unfold NodeIn at h
  split at h
  · exact Blk.frozen h i
  · exact Blk.frozen h i
theorem NodeIn.lt {w : World} {tb : Nat} {N : Pf → Option Nat} {M : Pf → Bool} {V : Pf → Int} {many : Nat} {p : Pf} {b : Nat} (h : NodeIn w tb N M V many p b) : b < w.heap.size := by
  unfold NodeIn at h
  split at h
  · exact Blk.lt h
  · exact Blk.lt h
theorem NodeIn.kept {w w' : World} {tb : Nat} {N : Pf → Option Nat} {M : Pf → Bool} {V : Pf → Int} {many : Nat} {p : Pf} {b : Nat} {r : Option Nat} (h : NodeIn w tb N M V many p b) (g : w.grownBy w' r) (hr : some b ≠ r) : NodeIn w' tb N M V many p b := by
  unfold NodeIn at h ⊢
  split at h
  · rename_i e; rw [if_pos e]; exact Blk.kept h g hr
  · rename_i e; rw [if_neg e]; exact Blk.kept h g hr
/-- Which object a node's block is, but not a prefix. -/
theorem NodeIn.obj {w : World} {tb : Nat} {N : Pf → Option Nat} {M : Pf → Bool} {V : Pf → Int} {many : Nat} {p : Pf} {b : Nat} (h : NodeIn w tb N M V many p b) : ∃ cs t, w.heap[b]? = some (.cells cs t (0, 0)) ∧ (t = 57 ∨ t = 55) := by
  unfold NodeIn at h
  split at h
  · exact ⟨_, _, h, Or.inl rfl⟩
  · exact ⟨_, _, h, Or.inr rfl⟩
theorem Tree.kept {w w' : World} {tb : Nat} {N : Pf → Option Nat} {M : Pf → Bool} {V : Pf → Int} {many : Nat} {r : Option Nat} (h : Tree w tb N M V many) (g : w.grownBy w' r) (hr : ∀ p b, N p = some b → some b ≠ r) : Tree w' tb N M V many :=
  { h with blk := fun p b hb => (h.blk p b hb).kept g (hr p b hb) }
theorem Tree.new {w w' : World} {tb : Nat} {N : Pf → Option Nat} {M : Pf → Bool} {V : Pf → Int} {many : Nat} (h : Tree w tb N M V many) (g : w.grownBy w' none) : Tree w' tb N M V many := h.kept g (fun p b hb => by simp)
theorem Tree.many {w : World} {tb : Nat} {N : Pf → Option Nat} {M : Pf → Bool} {V : Pf → Int} {many : Nat} (h : Tree w tb N M V many) : w.cell? ⟨tb, 4, none⟩ = some (.int .i64 (many : Int)) ∧ w.frozen? ⟨tb, 4, none⟩ = false := by
  have hb := h.blk [] tb h.root
  unfold NodeIn at hb
  rw [if_pos rfl] at hb
  exact ⟨Blk.cell hb 4, Blk.frozen hb 4⟩

def updN (N : Pf → Option Nat) (p : Pf) (b : Nat) : Pf → Option Nat := fun q => if q = p then some b else N q
def updM (M : Pf → Bool) (p : Pf) (v : Bool) : Pf → Bool := fun q => if q = p then v else M q
def updV (V : Pf → Int) (p : Pf) (v : Int) : Pf → Int := fun q => if q = p then v else V q
theorem snoc_inj {p q : Pf} {c d : Bool} (h : p ++ [c] = q ++ [d]) : p = q ∧ c = d := by
  have := List.append_inj' h rfl
  exact ⟨this.1, by simpa using this.2⟩

/-- The number of a table is another one. -/
theorem Tree.setMany {w : World} {tb : Nat} {N : Pf → Option Nat} {M : Pf → Bool} {V : Pf → Int} {many : Nat} (h : Tree w tb N M V many) (k : Nat) : Tree (w.setCell ⟨tb, 4, none⟩ (.int .i64 (k : Int))) tb N M V k :=
  { h with
    blk := fun p b hb => by
      have q := h.blk p b hb
      by_cases e : p = []
      · subst e
        obtain rfl : b = tb := by rw [h.root] at hb; exact (Option.some.inj hb).symm
        unfold NodeIn at q ⊢
        rw [if_pos rfl] at q ⊢
        exact Blk.set q 4 _
      · have hne : b ≠ tb := fun x => e (h.inj p [] tb (x ▸ hb) h.root)
        unfold NodeIn at q ⊢
        rw [if_neg e] at q ⊢
        exact Blk.kept q (grow_setCell (grow_refl w (some tb)) 4 _) (by simpa using hne) }
/-- A mark is another one. -/
theorem Tree.setMark {w : World} {tb : Nat} {N : Pf → Option Nat} {M : Pf → Bool} {V : Pf → Int} {many : Nat} (h : Tree w tb N M V many) (p : Pf) (b : Nat) (hb : N p = some b) (v : Bool) : Tree (w.setCell ⟨b, 2, none⟩ (.bool v)) tb N (updM M p v) V many :=
  { h with
    mark := fun q hq => by
      unfold updM at hq
      split at hq
      · rename_i e; rw [e, hb]; simp
      · exact h.mark q hq
    blk := fun q c hc => by
      have k := h.blk q c hc
      by_cases e : q = p
      · subst e
        obtain rfl : c = b := by rw [hb] at hc; exact (Option.some.inj hc).symm
        unfold NodeIn at k ⊢
        have e3 : nodeC N (updM M q v) V q = (nodeC N M V q).set 2 (.bool v) := by unfold nodeC updM; simp
        split at k
        · rename_i e2; rw [if_pos e2, e3]; exact Blk.set k 2 _
        · rename_i e2; rw [if_neg e2, e3]; exact Blk.set k 2 _
      · have hne : c ≠ b := fun x => e (h.inj q p b (x ▸ hc) hb)
        have k2 := k.kept (grow_setCell (grow_refl w (some b)) 2 (.bool v)) (by simpa using hne)
        unfold NodeIn at k2 ⊢
        have e3 : nodeC N (updM M p v) V q = nodeC N M V q := by unfold nodeC updM; simp [e]
        rw [e3]
        exact k2 }
/-- An owner is another one. -/
theorem Tree.setOwner {w : World} {tb : Nat} {N : Pf → Option Nat} {M : Pf → Bool} {V : Pf → Int} {many : Nat} (h : Tree w tb N M V many) (p : Pf) (b : Nat) (hb : N p = some b) (v : Int) (hv : 0 ≤ v ∧ v < 8) : Tree (w.setCell ⟨b, 3, none⟩ (.int .i64 v)) tb N M (updV V p v) many :=
  { h with
    val := fun q => by
      unfold updV
      split
      · exact hv
      · exact h.val q
    blk := fun q c hc => by
      have k := h.blk q c hc
      by_cases e : q = p
      · subst e
        obtain rfl : c = b := by rw [hb] at hc; exact (Option.some.inj hc).symm
        unfold NodeIn at k ⊢
        have e3 : nodeC N M (updV V q v) q = (nodeC N M V q).set 3 (.int .i64 v) := by unfold nodeC updV; simp
        split at k
        · rename_i e2; rw [if_pos e2, e3]; exact Blk.set k 3 _
        · rename_i e2; rw [if_neg e2, e3]; exact Blk.set k 3 _
      · have hne : c ≠ b := fun x => e (h.inj q p b (x ▸ hc) hb)
        have k2 := k.kept (grow_setCell (grow_refl w (some b)) 3 (.int .i64 v)) (by simpa using hne)
        unfold NodeIn at k2 ⊢
        have e3 : nodeC N M (updV V p v) q = nodeC N M V q := by unfold nodeC updV; simp [e]
        rw [e3]
        exact k2 }
/-- A new node below another one. -/
theorem Tree.setKid {w : World} {tb : Nat} {N : Pf → Option Nat} {M : Pf → Bool} {V : Pf → Int} {many : Nat} (h : Tree w tb N M V many) (p : Pf) (b : Nat) (hb : N p = some b) (c : Bool) (hc : N (p ++ [c]) = none) (hl : p.length < 32) :
    Tree ((w.alloc (.cells #[.pointer none, .pointer none, .bool false, .int .i64 0] 55)).setCell ⟨b, bitN c, none⟩ (.pointer (some ⟨w.heap.size, 0, none⟩))) tb (updN N (p ++ [c]) w.heap.size) M (updV V (p ++ [c]) 0) many := by
  have hne : p ≠ p ++ [c] := fun e => by have := congrArg List.length e; simp at this
  have fresh : ∀ q d, N q = some d → d < w.heap.size := fun q d hd => (h.blk q d hd).lt
  have below : ∀ d, N (p ++ [c] ++ [d]) = none := fun d => h.pre _ _ hc
  have other : ∀ (q : Pf) (d : Bool), ¬ (q = p ∧ d = c) → updN N (p ++ [c]) w.heap.size (q ++ [d]) = N (q ++ [d]) := fun q d hn => by
    unfold updN
    rw [if_neg]
    intro e
    exact hn (snoc_inj e)
  have hg : w.grownBy ((w.alloc (.cells #[.pointer none, .pointer none, .bool false, .int .i64 0] 55)).setCell ⟨b, bitN c, none⟩ (.pointer (some ⟨w.heap.size, 0, none⟩))) (some b) :=
    grow_setCell (grow_none (World.grownBy_alloc w _ none)) _ _
  have hbl := fresh p b hb
  refine ⟨?_, ?_, ?_, ?_, ?_, ?_, ?_⟩
  · unfold updN
    rw [if_neg (by simp), h.root]
  · intro q r d hq hr
    unfold updN at hq hr
    split at hq
    · rename_i e1
      split at hr
      · rename_i e2; rw [e1, e2]
      · have := fresh r d hr
        have := Option.some.inj hq
        omega
    · split at hr
      · have := fresh q d hq
        have := Option.some.inj hr
        omega
      · exact h.inj q r d hq hr
  · intro q d hq
    by_cases e : q = p ∧ d = c
    · obtain ⟨rfl, rfl⟩ := e
      unfold updN at hq
      rw [if_neg hne, hb] at hq
      cases hq
    · rw [other q d e]
      apply h.pre
      unfold updN at hq
      split at hq
      · cases hq
      · exact hq
  · intro q d hq
    unfold updN at hq
    split at hq
    · rename_i e; rw [e]; simp; omega
    · exact h.len q d hq
  · intro q hq
    unfold updN
    split
    · simp
    · exact h.mark q hq
  · intro q
    unfold updV
    split
    · omega
    · exact h.val q
  · intro q d hq
    by_cases e : q = p ++ [c]
    · subst e
      have : d = w.heap.size := by unfold updN at hq; rw [if_pos rfl] at hq; exact (Option.some.inj hq).symm
      subst this
      have hn : NodeIn (w.alloc (.cells #[.pointer none, .pointer none, .bool false, .int .i64 0] 55)) tb (updN N (p ++ [c]) w.heap.size) M (updV V (p ++ [c]) 0) many (p ++ [c]) w.heap.size := by
        unfold NodeIn
        rw [if_neg (by simp)]
        have hM : M (p ++ [c]) = false := by
          cases hm : M (p ++ [c]) with
          | false => rfl
          | true => exact absurd hc (h.mark _ hm)
        have e1 : nodeC (updN N (p ++ [c]) w.heap.size) M (updV V (p ++ [c]) 0) (p ++ [c]) = [.pointer none, .pointer none, .bool false, .int .i64 0] := by
          unfold nodeC
          rw [other _ _ (fun e => hne e.1.symm), other _ _ (fun e => hne e.1.symm), below, below, hM]
          unfold updV ptrN
          simp
        rw [e1]
        exact Blk.new w _ _
      exact hn.kept (grow_setCell (grow_refl _ (some b)) (bitN c) _) (by simp; omega)
    · have hq' : N q = some d := by unfold updN at hq; rw [if_neg e] at hq; exact hq
      have k := h.blk q d hq'
      have hV : updV V (p ++ [c]) 0 q = V q := by unfold updV; rw [if_neg e]
      by_cases e2 : q = p
      · subst e2
        obtain rfl : d = b := by rw [hb] at hq'; exact (Option.some.inj hq').symm
        have k2 := k.kept (World.grownBy_alloc w (.cells #[.pointer none, .pointer none, .bool false, .int .i64 0] 55) none) (by simp)
        have e3 : nodeC (updN N (q ++ [c]) w.heap.size) M (updV V (q ++ [c]) 0) q = (nodeC N M V q).set (bitN c) (.pointer (some ⟨w.heap.size, 0, none⟩)) := by
          unfold nodeC
          rw [hV]
          cases c
          · rw [other q true (by simp)]
            unfold updN ptrN bitN
            simp
          · rw [other q false (by simp)]
            unfold updN ptrN bitN
            simp
        unfold NodeIn at k2 ⊢
        have hbc := bitN_le c
        split at k2
        · rename_i e4
          rw [if_pos e4, e3]
          have e5 : (nodeC N M V q).set (bitN c) (Value.pointer (some ⟨w.heap.size, 0, none⟩)) ++ [Value.int .i64 (many : Int)] = (nodeC N M V q ++ [Value.int .i64 (many : Int)]).set (bitN c) (Value.pointer (some ⟨w.heap.size, 0, none⟩)) := by
            rw [List.set_append_left _ _ (by show bitN c < 4; omega)]
          rw [e5]
          exact Blk.set k2 _ _
        · rename_i e4
          rw [if_neg e4, e3]
          exact Blk.set k2 _ _
      · have hdb : d ≠ b := fun x => e2 (h.inj q p b (x ▸ hq') hb)
        have k2 := k.kept hg (by simpa using hdb)
        have e3 : nodeC (updN N (p ++ [c]) w.heap.size) M (updV V (p ++ [c]) 0) q = nodeC N M V q := by
          unfold nodeC
          rw [hV, other q false (fun x => e2 x.1), other q true (fun x => e2 x.1)]
        unfold NodeIn at k2 ⊢
        rw [e3]
        exact k2
end Go.Proofs.Ytbkgfpebffmffaa
