/- Numbers modulo 2^255 - 19: sums of products. -/
import Derived.Test.YtmceahknglkhoaaDoorElemMinus
namespace Go.Proofs.YtmceahknglkhoaaDoor
open Go.RowKit
set_option linter.unusedVariables false

def whi (n : Nat) : Nat := n / 18446744073709551616
def wlo (n : Nat) : Nat := n % 18446744073709551616
/-- A wide number. -/
def W2 (n : Nat) : Value := .agg #[.int .u64 (whi n : Nat), .int .u64 (wlo n : Nat)]

set_option maxHeartbeats 1000000 in
theorem code_nwide (w : World) (n x y : Nat) (hx : x < 18446744073709551616) (hy : y < 18446744073709551616) (hn : n + x * y < 340282366920938463463374607431768211456) :
    Calls Tryd.prog 53 #[W2 n, .int .u64 (x : Int), .int .u64 (y : Int)] w (Grown (W2 (n + x * y)) w) := by
  obtain ⟨h, l, m1, lh, ll, M⟩ := emul64_named x y hx hy
  obtain ⟨s, d, e1, ls, ld, E1⟩ := eadd64_eq (wlo n) l 0 (by omega) (Nat.mod_lt _ (by omega)) ll
  have lhn : whi n < 18446744073709551616 := by unfold whi; omega
  obtain ⟨t, d2, e2, lt, ld2, E2⟩ := eadd64_eq (whi n) h d ld lhn lh
  have hV : W2 (n + x * y) = .agg #[.int .u64 (t : Int), .int .u64 (s : Int)] := by
    have hs : wlo (n + x * y) = s ∧ whi (n + x * y) = t := by
      unfold wlo whi at *
      rw [← m1] at hn ⊢
      omega
    unfold W2
    rw [hs.1, hs.2]
  rw [hV]
  unfold W2
  have lw : wlo n < 18446744073709551616 := Nat.mod_lt _ (by omega)
  clear hV m1 e1 e2 hn
  generalize whi n = nh at *
  generalize wlo n = nl at *
  have z0 : ((0 : Nat) : Int) = 0 := rfl
  rw [z0] at E1
  clear z0
  go_enter Tryd.func53, Tryd.ntmps53
  go_wp2_with fail
  (with_reducible refine (M _).mono ?_)
  rintro e w2 ⟨rfl, rfl⟩
  go_wp2_with fail
  refine bodyPost_ret (v := .agg #[.int .u64 (t : Int), .int .u64 (s : Int)]) (by simp [results, Tryd.results53, go_sem]) rfl ?_
  exact ⟨rfl, grow_alloc (grow_alloc (grow_refl w none) _) _⟩

/-- Wide numbers side by side. -/
def wcells (W : List Nat) : List Value := W.flatMap fun n => [.int .u64 (whi n : Nat), .int .u64 (wlo n : Nat)]
def WBk (w : World) (B : Nat) (W : List Nat) : Prop := Blk w B 81 (wcells W)

theorem wcells_length (W : List Nat) : (wcells W).length = 2 * W.length := by
  induction W with
  | nil => rfl
  | cons n W ih => simp only [wcells, List.flatMap_cons, List.length_append, List.length_cons, List.length_nil] at ih ⊢; omega
theorem wcells_at : ∀ (W : List Nat) (i : Nat) (h : i < W.length), (wcells W)[2 * i]? = some (.int .u64 (whi W[i] : Nat)) ∧ (wcells W)[2 * i + 1]? = some (.int .u64 (wlo W[i] : Nat))
  | n :: W, 0, _ => ⟨rfl, rfl⟩
  | n :: W, i + 1, h => by
    have ih := wcells_at W i (by simpa using h)
    have e1 : 2 * (i + 1) = (2 * i) + 1 + 1 := by omega
    rw [e1]
    exact ih
theorem wcells_set : ∀ (W : List Nat) (i n : Nat), i < W.length → ((wcells W).set (2 * i) (.int .u64 (whi n : Nat))).set (2 * i + 1) (.int .u64 (wlo n : Nat)) = wcells (W.set i n)
  | m :: W, 0, n, _ => rfl
  | m :: W, i + 1, n, h => by
    have ih := wcells_set W i n (by simpa using h)
    have e1 : 2 * (i + 1) = (2 * i) + 1 + 1 := by omega
    rw [e1]
    show _ :: _ :: ((wcells W).set (2 * i) _).set (2 * i + 1) _ = _ :: _ :: wcells (W.set i n)
    rw [ih]
theorem WBk.cell {w : World} {B : Nat} {W : List Nat} (h : WBk w B W) (i : Nat) (hi : i < W.length) : w.cell? ⟨B, 2 * i, none⟩ = some (.int .u64 (whi W[i] : Nat)) ∧ w.cell? ⟨B, 2 * i + 1, none⟩ = some (.int .u64 (wlo W[i] : Nat)) := by
  rw [Blk.cell h, Blk.cell h]
  exact wcells_at W i hi
theorem WBk.set {w : World} {B : Nat} {W : List Nat} (h : WBk w B W) (i n : Nat) (hi : i < W.length) : WBk ((w.setCell ⟨B, 2 * i, none⟩ (.int .u64 (whi n : Nat))).setCell ⟨B, 2 * i + 1, none⟩ (.int .u64 (wlo n : Nat))) B (W.set i n) := by
  have := (Blk.set h (2 * i) (.int .u64 (whi n : Nat))).set (2 * i + 1) (.int .u64 (wlo n : Nat))
  rw [wcells_set W i n hi] at this
  exact this

theorem idx5_0 (w : World) (a0 a1 a2 a3 a4 : Int) : (Instr.index 64 (.agg #[.int .u64 a0, .int .u64 a1, .int .u64 a2, .int .u64 a3, .int .u64 a4]) (.int .i64 0)).run Tryd.prog w = .ok (.int .u64 a0) w := by kernel_rfl
theorem idx5_1 (w : World) (a0 a1 a2 a3 a4 : Int) : (Instr.index 64 (.agg #[.int .u64 a0, .int .u64 a1, .int .u64 a2, .int .u64 a3, .int .u64 a4]) (.int .i64 1)).run Tryd.prog w = .ok (.int .u64 a1) w := by kernel_rfl
theorem idx5_2 (w : World) (a0 a1 a2 a3 a4 : Int) : (Instr.index 64 (.agg #[.int .u64 a0, .int .u64 a1, .int .u64 a2, .int .u64 a3, .int .u64 a4]) (.int .i64 2)).run Tryd.prog w = .ok (.int .u64 a2) w := by kernel_rfl
theorem idx5_3 (w : World) (a0 a1 a2 a3 a4 : Int) : (Instr.index 64 (.agg #[.int .u64 a0, .int .u64 a1, .int .u64 a2, .int .u64 a3, .int .u64 a4]) (.int .i64 3)).run Tryd.prog w = .ok (.int .u64 a3) w := by kernel_rfl
theorem idx5_4 (w : World) (a0 a1 a2 a3 a4 : Int) : (Instr.index 64 (.agg #[.int .u64 a0, .int .u64 a1, .int .u64 a2, .int .u64 a3, .int .u64 a4]) (.int .i64 4)).run Tryd.prog w = .ok (.int .u64 a4) w := by kernel_rfl
theorem idxw_0 (w : World) (a0 b0 a1 b1 a2 b2 a3 b3 a4 b4 : Int) : (Instr.index 81 (.agg #[.int .u64 a0, .int .u64 b0, .int .u64 a1, .int .u64 b1, .int .u64 a2, .int .u64 b2, .int .u64 a3, .int .u64 b3, .int .u64 a4, .int .u64 b4]) (.int .i64 0)).run Tryd.prog w = .ok (.agg #[.int .u64 a0, .int .u64 b0]) w := by kernel_rfl
theorem idxw_1 (w : World) (a0 b0 a1 b1 a2 b2 a3 b3 a4 b4 : Int) : (Instr.index 81 (.agg #[.int .u64 a0, .int .u64 b0, .int .u64 a1, .int .u64 b1, .int .u64 a2, .int .u64 b2, .int .u64 a3, .int .u64 b3, .int .u64 a4, .int .u64 b4]) (.int .i64 1)).run Tryd.prog w = .ok (.agg #[.int .u64 a1, .int .u64 b1]) w := by kernel_rfl
theorem idxw_2 (w : World) (a0 b0 a1 b1 a2 b2 a3 b3 a4 b4 : Int) : (Instr.index 81 (.agg #[.int .u64 a0, .int .u64 b0, .int .u64 a1, .int .u64 b1, .int .u64 a2, .int .u64 b2, .int .u64 a3, .int .u64 b3, .int .u64 a4, .int .u64 b4]) (.int .i64 2)).run Tryd.prog w = .ok (.agg #[.int .u64 a2, .int .u64 b2]) w := by kernel_rfl
theorem idxw_3 (w : World) (a0 b0 a1 b1 a2 b2 a3 b3 a4 b4 : Int) : (Instr.index 81 (.agg #[.int .u64 a0, .int .u64 b0, .int .u64 a1, .int .u64 b1, .int .u64 a2, .int .u64 b2, .int .u64 a3, .int .u64 b3, .int .u64 a4, .int .u64 b4]) (.int .i64 3)).run Tryd.prog w = .ok (.agg #[.int .u64 a3, .int .u64 b3]) w := by kernel_rfl
theorem idxw_4 (w : World) (a0 b0 a1 b1 a2 b2 a3 b3 a4 b4 : Int) : (Instr.index 81 (.agg #[.int .u64 a0, .int .u64 b0, .int .u64 a1, .int .u64 b1, .int .u64 a2, .int .u64 b2, .int .u64 a3, .int .u64 b3, .int .u64 a4, .int .u64 b4]) (.int .i64 4)).run Tryd.prog w = .ok (.agg #[.int .u64 a4, .int .u64 b4]) w := by kernel_rfl
theorem idx5 (w : World) (a0 a1 a2 a3 a4 : Nat) (k : Nat) (hk : k < [a0, a1, a2, a3, a4].length) :
    (Instr.index 64 (.agg #[.int .u64 (a0 : Int), .int .u64 (a1 : Int), .int .u64 (a2 : Int), .int .u64 (a3 : Int), .int .u64 (a4 : Int)]) (.int .i64 (k : Int))).run Tryd.prog w = .ok (.int .u64 (([a0, a1, a2, a3, a4][k] : Nat) : Int)) w := by
  match k, hk with
  | 0, _ => exact idx5_0 w _ _ _ _ _
  | 1, _ => exact idx5_1 w _ _ _ _ _
  | 2, _ => exact idx5_2 w _ _ _ _ _
  | 3, _ => exact idx5_3 w _ _ _ _ _
  | 4, _ => exact idx5_4 w _ _ _ _ _

end Go.Proofs.YtmceahknglkhoaaDoor
