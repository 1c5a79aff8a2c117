/- Numbers modulo 2^255 - 19: the least one of a text. -/
import Derived.Test.YtmceahknglkhoaaElemTwo
namespace Go.Proofs.Ytmceahknglkhoaa
open Go.RowKit
set_option linter.unusedVariables false

def lowM (s : List UInt8) : List UInt8 := leB (leN s % PP) 32
def addM (s t : List UInt8) : List UInt8 := leB ((leN s + leN t) % PP) 32
def subM (s t : List UInt8) : List UInt8 := leB ((leN s + (PP - leN t % PP)) % PP) 32
def mulM (s t : List UInt8) : List UInt8 := leB ((leN s * leN t) % PP) 32
theorem lowM_length (s : List UInt8) : (lowM s).length = 32 := leB_length _ _
theorem addM_length (s t : List UInt8) : (addM s t).length = 32 := leB_length _ _
theorem subM_length (s t : List UInt8) : (subM s t).length = 32 := leB_length _ _
theorem mulM_length (s t : List UInt8) : (mulM s t).length = 32 := leB_length _ _

def Said (l : List UInt8) (w : World) : Ending → World → Prop := Grown (.tuple #[S l, .int .i64 0]) w

theorem code_nlow1 (w : World) (a b : List Nat) (ha : Ok5 a) (hb : Ok5 b) : Calls Try.prog 32 #[N5 a, N5 b] w (FunIs a b (fun x y z => z = x) w) := by
  obtain ⟨a0, a1, a2, a3, a4, ea⟩ := five ha.length
  obtain ⟨b0, b1, b2, b3, b4, eb⟩ := five hb.length
  have HA := Lib.hid ha
  have HE := Lib.hid ea
  have hNa : N5 a = .agg #[.int .u64 (a0 : Int), .int .u64 (a1 : Int), .int .u64 (a2 : Int), .int .u64 (a3 : Int), .int .u64 (a4 : Int)] := by rw [ea]; rfl
  have hNb : N5 b = .agg #[.int .u64 (b0 : Int), .int .u64 (b1 : Int), .int .u64 (b2 : Int), .int .u64 (b3 : Int), .int .u64 (b4 : Int)] := by rw [eb]; rfl
  rw [hNa, hNb]
  clear ha hb ea eb hNa hNb
  go_enter Try.func32, Try.ntmps32
  go_wp2_with fail
  refine bodyPost_ret (v := .agg #[.int .u64 (a0 : Int), .int .u64 (a1 : Int), .int .u64 (a2 : Int), .int .u64 (a3 : Int), .int .u64 (a4 : Int)]) (by simp [results, Try.results32, go_sem]) rfl ?_
  exact ⟨a, by have e := HE.out; rw [e]; rfl, HA.out, rfl, grow_alloc (grow_alloc (grow_alloc (grow_refl w none) _) _) _⟩

theorem two_val (s t : List UInt8) (w : World) (R : Nat → Nat → Nat → Prop) (V : List UInt8) (h : ∀ x y z, x % PP = leN s % PP → y % PP = leN t % PP → R x y z → leB (z % PP) 32 = V)
    (e : Ending) (w' : World) (hT : TwoIs s t R w e w') : Said V w e w' := by
  obtain ⟨x, y, z, h1, h2, h3, rfl, hg⟩ := hT
  rw [h x y z h1 h2 h3]
  exact ⟨rfl, hg⟩

theorem code_nlow (w : World) (s : List UInt8) (hs : s.length = 32) : Calls Try.prog 16 #[S s] w (Said (lowM s) w) := by
  have A : ∀ W : World, Calls Try.prog 31 #[S s, S s, .func (.func 32) #[] #[]] W (Said (lowM s) W) := fun W =>
    (code_ntwo W s s hs hs _ #[] (fun x y z => z = x) (fun x y W => rfl) (fun V a b oa ob _ => code_nlow1 V a b oa ob)).mono
      (two_val s s W _ _ fun x y z h1 h2 h3 => by rw [h3, h1]; rfl)
  unfold S at A ⊢
  obtain ⟨V, hV⟩ : ∃ V, V = lowM s := ⟨_, rfl⟩
  rw [← hV] at A ⊢
  clear hV
  go_enter Try.func16, Try.ntmps16
  go_wp2_with fail
  (with_reducible refine (A _).mono ?_)
  rintro e w1 ⟨rfl, hg⟩
  unfold S
  go_wp2_with fail
  refine bodyPost_ret (v := .tuple #[.string ⟨V.toArray⟩, .int .i64 0]) (by simp [results, Try.results16, go_sem]) rfl ?_
  exact ⟨rfl, hg⟩

end Go.Proofs.Ytmceahknglkhoaa
