/- Noughts, and what grows. -/
import Derived.Test.YtbkgfpebffmffaaBytes
import Derived.Test.YtbkgfpebffmffaaShelf
namespace Go.Proofs.Ytbkgfpebffmffaa
open Go.RowKit
set_option linter.unusedVariables false

def zerosL (n : Nat) : List UInt8 := List.replicate n 0
def sizedL (l : List UInt8) (n : Nat) : List UInt8 := l.take n ++ zerosL (n - l.length)

theorem sizedL_length (l : List UInt8) (n : Nat) : (sizedL l n).length = n := by
  unfold sizedL zerosL
  rw [List.length_append, List.length_take, List.length_replicate]
  omega

theorem zerosL_length (n : Nat) : (zerosL n).length = n := by simp [zerosL]

theorem repeatL_zero (n : Nat) : Lib.repeatL [0] n = zerosL n := by
  induction n with
  | zero => rfl
  | succ n ih =>
    show [0] ++ Lib.repeatL [0] n = _
    rw [ih]
    rfl

/-- How the walk's strings read: joined, and cut. -/
theorem rule_app (a b : List UInt8) : ByteArray.mk a.toArray ++ ByteArray.mk b.toArray = ⟨(a ++ b).toArray⟩ := by
  rw [ByteArray.mk_append_mk]

theorem rule_ext (l : List UInt8) (a b : Nat) : (ByteArray.mk l.toArray).extract a b = ⟨((l.drop a).take (b - a)).toArray⟩ := by
  apply ByteArray.ext
  rw [ByteArray.data_extract]
  apply Array.toList_inj.1
  simp

theorem list_of (s : ByteArray) : ∃ l : List UInt8, s = ⟨l.toArray⟩ ∧ l.length = s.size := ⟨s.data.toList, rfl, by rw [Array.length_toList]; rfl⟩

def Grown (v : Value) (w : World) (e : Ending) (w' : World) : Prop := e = .returned v ∧ w.grownBy w' none

theorem repeat_zero (w : World) (n : Nat) (hn : n ≤ 140737488355328) : Calls Try.prog 29 #[.string ⟨#[0]⟩, .int .i64 n] w (Grown (S (zerosL n)) w) := by
  refine (Try.strings_Repeat ⟨#[0]⟩ n w (by omega) (by simpa [ByteArray.size] using hn)).mono ?_
  rintro e w' ⟨rfl, hb⟩
  refine ⟨?_, grow_of_below hb⟩
  rw [show (ByteArray.mk #[0]).data.toList = [0] from rfl, repeatL_zero]
  rfl

end Go.Proofs.Ytbkgfpebffmffaa
