/- The walk of ChachaKnown. -/
import Derived.Test.YtfdbnkbnfappfaaChachaLaws
namespace Go.Proofs.Ytfdbnkbnfappfaa
open Go.RowKit
set_option linter.unusedVariables false

set_option maxRecDepth 20000 in
set_option maxHeartbeats 1000000 in
theorem walk_ChachaKnown (w : World) :
    Calls Try.prog 4 #[] w fun e w' => e = .returned (.bool true) ∧ Below w.heap.size w w' := by
  have hk : kKey.length = 32 := by decide
  have A1 : ∀ W : World, Calls Try.prog 16 #[S hexK] W (Grown (S kKey) W) := fun W => code_bytes W hexK kKey (by decide) vec_k.1 vec_k.2
  have A2 : ∀ W : World, Calls Try.prog 16 #[S hexN] W (Grown (S [0, 0, 0, 9, 0, 0, 0, 74, 0, 0, 0, 0]) W) := fun W => code_bytes W hexN _ (by decide) vec_n.1 vec_n.2
  have A3 : ∀ W : World, Calls Try.prog 16 #[S hexN2] W (Grown (S [0, 0, 0, 9, 0, 0, 0, 74, 0, 0, 0, 0, 49, 65, 89, 39]) W) := fun W => code_bytes W hexN2 _ (by decide) vec_n2.1 vec_n2.2
  have A4 : ∀ W : World, Calls Try.prog 16 #[S hexP] W (Grown (S vP) W) := fun W => code_bytes W hexP vP (by decide) vec_p.1 vec_p.2
  have A5 : ∀ W : World, Calls Try.prog 16 #[S hexQ] W (Grown (S vQ) W) := fun W => code_bytes W hexQ vQ (by decide) vec_q.1 vec_q.2
  have B1 : ∀ W : World, Calls Try.prog 17 #[S kKey, S [0, 0, 0, 9, 0, 0, 0, 74, 0, 0, 0, 0], .int .u32 1] W (Blocked (blockL kKey [0, 0, 0, 9, 0, 0, 0, 74, 0, 0, 0, 0] 1) W) := fun W => code_block W kKey _ 1 hk rfl (by omega)
  have B2 : ∀ W : World, Calls Try.prog 18 #[S kKey, S [0, 0, 0, 9, 0, 0, 0, 74, 0, 0, 0, 0, 49, 65, 89, 39]] W (Blocked vQ W) := fun W => by
    have := code_sub W kKey [0, 0, 0, 9, 0, 0, 0, 74, 0, 0, 0, 0, 49, 65, 89, 39] hk rfl
    rw [vec_sub] at this
    exact this
  have hpre := vec_block
  generalize blockL kKey [0, 0, 0, 9, 0, 0, 0, 74, 0, 0, 0, 0] 1 = bl at *
  generalize kKey = key at *
  generalize hvp : vP = p at *
  generalize hvq : vQ = q at *
  clear hvp hvq hk
  unfold S at A1 A2 A3 A4 A5 B1 B2
  unfold hexK at A1
  unfold hexN at A2
  unfold hexN2 at A3
  unfold hexP at A4
  unfold hexQ at A5
  go_enter Try.func4, Try.ntmps4
  go_wp2_with fail
  refine (A1 _).mono ?_
  rintro e x1 ⟨rfl, hg1⟩
  go_wp2_with fail
  refine (A2 _).mono ?_
  rintro e x2 ⟨rfl, hg2⟩
  go_wp2_with fail
  refine (B1 _).mono ?_
  rintro e x3 ⟨rfl, hg3⟩
  unfold S
  have hgA := grow_trans (grow_trans hg1 hg2) hg3
  clear hg1 hg2 hg3
  go_wp2_with fail
  refine (A3 _).mono ?_
  rintro e x4 ⟨rfl, hg4⟩
  go_wp2_with fail
  refine (B2 _).mono ?_
  rintro e x5 ⟨rfl, hg5⟩
  unfold S
  have hgB := grow_trans (grow_trans hgA hg4) hg5
  clear hgA hg4 hg5 A1 A2 A3 B1 B2
  go_wp2_with fail
  refine (A4 _).mono ?_
  rintro e x6 ⟨rfl, hg6⟩
  go_wp2_with fail
  refine (Try.strings_HasPrefix _ _ _).mono ?_
  rintro e x7 ⟨rfl, rfl⟩
  rw [show Lib.hasPrefix (ByteArray.mk bl.toArray).data.toList (ByteArray.mk p.toArray).data.toList = true from hpre]
  go_wp2_with fail
  refine (A5 _).mono ?_
  rintro e x8 ⟨rfl, hg8⟩
  go_wp2_with fail
  go_ret
  exact ⟨rfl, grow_below (grow_trans (grow_trans hgB hg6) hg8) _ (Nat.le_refl _) (by simp)⟩

end Go.Proofs.Ytfdbnkbnfappfaa
