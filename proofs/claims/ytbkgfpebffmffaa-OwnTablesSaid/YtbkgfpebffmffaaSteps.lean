/- A slice of steps that came in, element by element. -/
import Derived.Test.YtbkgfpebffmffaaOpen
namespace Go.Proofs.Ytbkgfpebffmffaa
open Go.RowKit
set_option linter.unusedVariables false

def stepKs : List Lk := [.int .i64, .int .i64, .int .i64, .int .u32, .int .u32, .str, .int .u32, .int .i64]

structure StepV where
  kind : Int
  a : Int
  b : Int
  n : Int
  m : Int
  s : ByteArray
  addr : Int
  bits : Int

def StepV.ok (v : StepV) : Prop :=
  (Lit.int .i64 v.kind).wf = true ∧ (Lit.int .i64 v.a).wf = true ∧ (Lit.int .i64 v.b).wf = true ∧ (Lit.int .u32 v.n).wf = true ∧ (Lit.int .u32 v.m).wf = true ∧ v.s.size ≤ maxLen ∧ (Lit.int .u32 v.addr).wf = true ∧ (Lit.int .i64 v.bits).wf = true

def StepV.cells (v : StepV) : Array Value := #[.int .i64 v.kind, .int .i64 v.a, .int .i64 v.b, .int .u32 v.n, .int .u32 v.m, .string v.s, .int .u32 v.addr, .int .i64 v.bits]

/-- Element i of a slice of steps. -/
def StepIn (w : World) (a : Option Addr) (i : Nat) (v : StepV) : Prop :=
  v.ok ∧ ∃ x, a = some x ∧ x.block < w.heap.size ∧ ∀ (j : Nat) (u : Value), v.cells[j]? = some u → w.cell? (x.add (i * 8 + j)) = some u

theorem add_block (x : Addr) (n : Nat) : (x.add n).block = x.block := by unfold Addr.add; split <;> rfl

theorem steps_in {w : World} {a : Option Addr} {len cap : Nat} (h : IsRecs stepKs w a len cap) : (len ≤ cap ∧ cap ≤ maxLen) ∧ ∀ i, i < len → ∃ v, StepIn w a i v := by
  rcases h with ⟨rfl, rfl, rfl⟩ | ⟨x, rfl, h1, h2, h3⟩
  · exact ⟨⟨Nat.le_refl _, Nat.zero_le _⟩, fun i hi => absurd hi (Nat.not_lt_zero _)⟩
  · refine ⟨⟨h1, h2⟩, fun i hi => ?_⟩
    obtain ⟨_, e0, k, rfl, w0⟩ := h3 i hi 0 _ rfl
    obtain ⟨_, e1, a, rfl, w1⟩ := h3 i hi 1 _ rfl
    obtain ⟨_, e2, b, rfl, w2⟩ := h3 i hi 2 _ rfl
    obtain ⟨_, e3, n, rfl, w3⟩ := h3 i hi 3 _ rfl
    obtain ⟨_, e4, m, rfl, w4⟩ := h3 i hi 4 _ rfl
    obtain ⟨_, e5, s, rfl, w5⟩ := h3 i hi 5 _ rfl
    obtain ⟨_, e6, p, rfl, w6⟩ := h3 i hi 6 _ rfl
    obtain ⟨_, e7, q, rfl, w7⟩ := h3 i hi 7 _ rfl
    have hl : stepKs.length = 8 := rfl
    rw [hl] at e0 e1 e2 e3 e4 e5 e6 e7
    refine ⟨⟨k, a, b, n, m, s, p, q⟩, ⟨w0, w1, w2, w3, w4, w5, w6, w7⟩, x, rfl, ?_, ?_⟩
    · have := World.block_lt_of_cell? w _ e0
      rwa [add_block] at this
    · intro j u hj
      match j, hj with
      | 0, hj => simp [StepV.cells] at hj; rw [← hj]; exact e0
      | 1, hj => simp [StepV.cells] at hj; rw [← hj]; exact e1
      | 2, hj => simp [StepV.cells] at hj; rw [← hj]; exact e2
      | 3, hj => simp [StepV.cells] at hj; rw [← hj]; exact e3
      | 4, hj => simp [StepV.cells] at hj; rw [← hj]; exact e4
      | 5, hj => simp [StepV.cells] at hj; rw [← hj]; exact e5
      | 6, hj => simp [StepV.cells] at hj; rw [← hj]; exact e6
      | 7, hj => simp [StepV.cells] at hj; rw [← hj]; exact e7
      | n + 8, hj => simp [StepV.cells] at hj

theorem StepIn.later {w w' : World} {a : Option Addr} {i : Nat} {v : StepV} (h : StepIn w a i v) (hb : Below w.heap.size w w') : StepIn w' a i v := by
  obtain ⟨hv, x, hx, hl, hc⟩ := h
  refine ⟨hv, x, hx, Nat.lt_of_lt_of_le hl hb.size, fun j u hj => ?_⟩
  rw [hb.cell (by rw [add_block]; exact hl)]
  exact hc j u hj

/-- The eight cells, at the addresses that a load of the whole struct asks for. -/
theorem StepIn.cells8 {w : World} {a : Option Addr} {i : Nat} {v : StepV} (h : StepIn w a i v) : ∃ x, a = some x ∧ x.block < w.heap.size ∧
    w.cell? (x.add (i * 8)) = some (.int .i64 v.kind) ∧ w.cell? ⟨(x.add (i * 8)).block, (x.add (i * 8)).off + 1, none⟩ = some (.int .i64 v.a) ∧ w.cell? ⟨(x.add (i * 8)).block, (x.add (i * 8)).off + 2, none⟩ = some (.int .i64 v.b) ∧
    w.cell? ⟨(x.add (i * 8)).block, (x.add (i * 8)).off + 3, none⟩ = some (.int .u32 v.n) ∧ w.cell? ⟨(x.add (i * 8)).block, (x.add (i * 8)).off + 4, none⟩ = some (.int .u32 v.m) ∧ w.cell? ⟨(x.add (i * 8)).block, (x.add (i * 8)).off + 5, none⟩ = some (.string v.s) ∧
    w.cell? ⟨(x.add (i * 8)).block, (x.add (i * 8)).off + 6, none⟩ = some (.int .u32 v.addr) ∧ w.cell? ⟨(x.add (i * 8)).block, (x.add (i * 8)).off + 7, none⟩ = some (.int .i64 v.bits) := by
  obtain ⟨_, x, hx, hl, hc⟩ := h
  have e : ∀ j, 0 < j → x.add (i * 8 + j) = ⟨(x.add (i * 8)).block, (x.add (i * 8)).off + j, none⟩ := by
    intro j hj
    unfold Addr.add
    rw [if_neg (by omega)]
    split
    · simp
    · simp [Nat.add_assoc]
  refine ⟨x, hx, hl, hc 0 _ rfl, ?_, ?_, ?_, ?_, ?_, ?_, ?_⟩
  · rw [← e 1 (by omega)]; exact hc 1 _ rfl
  · rw [← e 2 (by omega)]; exact hc 2 _ rfl
  · rw [← e 3 (by omega)]; exact hc 3 _ rfl
  · rw [← e 4 (by omega)]; exact hc 4 _ rfl
  · rw [← e 5 (by omega)]; exact hc 5 _ rfl
  · rw [← e 6 (by omega)]; exact hc 6 _ rfl
  · rw [← e 7 (by omega)]; exact hc 7 _ rfl

/-- A slice of steps whose texts hold so many letters at the most. -/
def IsSteps (w : World) (a : Option Addr) (len cap bound : Nat) : Prop := len ≤ bound ∧ len ≤ cap ∧ cap ≤ maxLen ∧ ∀ i, i < len → ∃ v, StepIn w a i v ∧ v.s.size ≤ bound

end Go.Proofs.Ytbkgfpebffmffaa
