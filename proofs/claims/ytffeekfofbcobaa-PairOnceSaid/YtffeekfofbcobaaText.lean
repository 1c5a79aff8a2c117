/- ChaCha: words as a text; block; streams. -/
import Derived.Test.YtffeekfofbcobaaBegun
import Derived.Deep.RegionWith
namespace Go.Proofs.Ytffeekfofbcobaa
open Go.RowKit
set_option linter.unusedVariables false

/-- Words as bytes, four each. -/
def textW (l : List Nat) : List UInt8 := l.flatMap fun n => leB n 4

theorem textW_length (l : List Nat) : (textW l).length = 4 * l.length := by
  induction l with
  | nil => rfl
  | cons n l ih => simp only [textW, List.flatMap_cons, List.length_append, leB_length, List.length_cons] at ih ⊢; omega

theorem textW_snoc (l : List Nat) (n : Nat) : textW (l ++ [n]) = textW l ++ leB n 4 := by simp [textW]

/-- So many words lie there, from an offset on. -/
def WAt (w : World) (B o : Nat) (l : List Nat) : Prop := ∀ i, (h : i < l.length) → w.cell? ⟨B, o + i, none⟩ = some (.int .u32 (l[i] : Nat))

theorem WAt.kept {w w' : World} {B o : Nat} {l : List Nat} {r : Option Nat} (h : WAt w B o l) (g : w.grownBy w' r) (hr : some B ≠ r) : WAt w' B o l := fun i hi => g.cell (a := ⟨B, o + i, none⟩) (h i hi) hr

theorem WAt.below {w w' : World} {B o n : Nat} {l : List Nat} (h : WAt w B o l) (g : Below n w w') (hn : B < n) : WAt w' B o l := fun i hi => (g.cell (p := ⟨B, o + i, none⟩) hn).trans (h i hi)

def Texted (l : List UInt8) (w : World) (e : Ending) (w' : World) : Prop := e = .returned (S l) ∧ Below w.heap.size w w'

set_option maxRecDepth 20000 in
set_option maxHeartbeats 1000000 in
theorem code_text (w : World) (B o cap : Nat) (l : List Nat) (h : WAt w B o l) (hl : l.length ≤ 16) (hs : ∀ n ∈ l, n < 4294967296) (hlt : B < w.heap.size) :
    Calls Try.prog 64 #[.slice (some ⟨B, o, none⟩) l.length cap] w (Texted (textW l) w) := by
  have HL := fun j => (textW_length (l.take j))
  have hfin : textW (l.take l.length) = textW l := by rw [List.take_length]
  have HF := Lib.hid hfin
  have HLh := Lib.hid HL
  have HS := Lib.hid hs
  clear hs HL hfin
  go_enter Try.func64, Try.ntmps64
  go_wp2_with fail
  go_loopw [3, 8] (fun vb vi wr => ∃ j : Nat, j ≤ l.length ∧ vi = .int .i64 j ∧ brow wr w.heap.size vb (textW (l.take j)) ∧ Below w.heap.size w wr) (fun _ vi _ => l.length - (intOf vi).toNat)
  case atStart => exact ⟨0, by omega, rfl, brow_nil _ _, Below.refl _ _⟩
  case round =>
    obtain ⟨j, hj, rfl, hown, HB⟩ := hrel
    by_cases hlj : j < l.length
    · have hc := (h.below HB hlt) j hlj
      have hn := HS.out l[j] (List.getElem_mem hlj)
      have hsn := Lib.hid (show textW (l.take (j + 1)) = textW (l.take j) ++ leB l[j] 4 from by rw [List.take_succ_eq_append_getElem hlj, textW_snoc])
      have hlen : (textW (l.take j)).length + 8 ≤ 140737488355328 := by rw [HLh.out, List.length_take]; omega
      have hbz := HB.size
      have e1 : IntKind.u64.wrap ((l[j] : Nat) : Int) = ((l[j] : Nat) : Int) := IntWalk.u64_in _ (by omega)
      go_wp2_with fail
      refine (wire_appendLittle wr w.heap.size u3 _ l[j] 4 hown (by omega) (by omega) hlen hbz).mono ?_
      rintro e w1 ⟨v', rfl, hown', hB'⟩
      rw [← hsn.out] at hown'
      replace HB := HB.trans hB'
      clear hown hc hB' hbz hlen e1
      go_wp2_with fail
      go_roundw
      case rel => exact ⟨j + 1, by omega, by go_num, hown', HB⟩
      case measure => simp [intOf]; omega
    · obtain rfl : j = l.length := by omega
      have hcv := conv_brow hown
      rw [HF.out] at hcv
      unfold S at hcv
      go_wp2_with fail
      go_ret
      exact ⟨rfl, HB⟩

def checkN (key nonce : List UInt8) (size : Nat) : Int := if key.length = 32 ∧ nonce.length = size then 0 else 1

theorem code_check (w : World) (key nonce : List UInt8) (size : Nat) (hk : key.length ≤ 9223372036854775807) (hn : nonce.length ≤ 9223372036854775807) (hs : size ≤ 100) :
    Calls Try.prog 61 #[S key, S nonce, .int .i64 size] w fun e w' => e = .returned (.int .i64 (checkN key nonce size)) ∧ w = w' := by
  obtain ⟨V, hV⟩ : ∃ V, V = checkN key nonce size := ⟨_, rfl⟩
  rw [← hV]
  have HV := Lib.hid hV
  clear hV
  unfold S
  by_cases h1 : key.length = 32
  · by_cases h2 : nonce.length = size
    · have q1 : ((key.length : Int) != 32) = false := by simp; omega
      have q2 : ((nonce.length : Int) != (size : Int)) = false := by simp; omega
      have HR := Lib.hid (show V = 0 from by rw [HV.out]; unfold checkN; rw [if_pos ⟨h1, h2⟩])
      clear h1 h2 HV
      go_enter Try.func61, Try.ntmps61
      go_wp2_with fail
      go_ret
      exact ⟨by rw [HR.out]; rfl, rfl⟩
    · have q1 : ((key.length : Int) != 32) = false := by simp; omega
      have q2 : ((nonce.length : Int) != (size : Int)) = true := by simp; omega
      have HR := Lib.hid (show V = 1 from by rw [HV.out]; unfold checkN; rw [if_neg (by omega)])
      clear h1 h2 HV
      go_enter Try.func61, Try.ntmps61
      go_wp2_with fail
      go_ret
      exact ⟨by rw [HR.out]; rfl, rfl⟩
  · have q1 : ((key.length : Int) != 32) = true := by simp; omega
    have HR := Lib.hid (show V = 1 from by rw [HV.out]; unfold checkN; rw [if_neg (by omega)])
    clear h1 HV
    go_enter Try.func61, Try.ntmps61
    go_wp2_with fail
    go_ret
    exact ⟨by rw [HR.out]; rfl, rfl⟩

end Go.Proofs.Ytffeekfofbcobaa
