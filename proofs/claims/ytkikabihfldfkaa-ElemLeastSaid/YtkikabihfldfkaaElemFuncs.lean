/- Numbers modulo 2^255 - 19: least, sums, differences, products. -/
import Derived.Test.YtkikabihfldfkaaElemTwo
namespace Go.Proofs.Ytkikabihfldfkaa
open Go.RowKit
set_option linter.unusedVariables false

def lowM (s : List UInt8) : List UInt8 := leB (leN s % PP) 32
def addM (s t : List UInt8) : List UInt8 := leB ((leN s + leN t) % PP) 32
def subM (s t : List UInt8) : List UInt8 := leB ((leN s + (PP - leN t % PP)) % PP) 32
def mulM (s t : List UInt8) : List UInt8 := leB ((leN s * leN t) % PP) 32
theorem lowM_length (s : List UInt8) : (lowM s).length = 32 := leB_length _ _
theorem addM_length (s t : List UInt8) : (addM s t).length = 32 := leB_length _ _
theorem subM_length (s t : List UInt8) : (subM s t).length = 32 := leB_length _ _
theorem mulM_length (s t : List UInt8) : (mulM s t).length = 32 := leB_length _ _

def Said (l : List UInt8) (w : World) : Ending → World → Prop := Grown (.tuple #[S l, .int .i64 0]) w

theorem code_nlow1 (w : World) (a b : List Nat) (ha : Ok5 a) (hb : Ok5 b) : Calls Try.prog 44 #[N5 a, N5 b] w (FunIs a b (fun x y z => z = x) w) := by
  obtain ⟨a0, a1, a2, a3, a4, ea⟩ := five ha.length
  obtain ⟨b0, b1, b2, b3, b4, eb⟩ := five hb.length
  have HA := Lib.hid ha
  have HE := Lib.hid ea
  have hNa : N5 a = .agg #[.int .u64 (a0 : Int), .int .u64 (a1 : Int), .int .u64 (a2 : Int), .int .u64 (a3 : Int), .int .u64 (a4 : Int)] := by rw [ea]; rfl
  have hNb : N5 b = .agg #[.int .u64 (b0 : Int), .int .u64 (b1 : Int), .int .u64 (b2 : Int), .int .u64 (b3 : Int), .int .u64 (b4 : Int)] := by rw [eb]; rfl
  rw [hNa, hNb]
  clear ha hb ea eb hNa hNb
  go_enter Try.func44, Try.ntmps44
  go_wp2_with fail
  refine bodyPost_ret (v := .agg #[.int .u64 (a0 : Int), .int .u64 (a1 : Int), .int .u64 (a2 : Int), .int .u64 (a3 : Int), .int .u64 (a4 : Int)]) (by simp [results, Try.results44, go_sem]) rfl ?_
  exact ⟨a, by have e := HE.out; rw [e]; rfl, HA.out, rfl, grow_alloc (grow_alloc (grow_alloc (grow_refl w none) _) _) _⟩

theorem two_val (s t : List UInt8) (w : World) (R : Nat → Nat → Nat → Prop) (V : List UInt8) (h : ∀ x y z, x % PP = leN s % PP → y % PP = leN t % PP → R x y z → leB (z % PP) 32 = V)
    (e : Ending) (w' : World) (hT : TwoIs s t R w e w') : Said V w e w' := by
  obtain ⟨x, y, z, h1, h2, h3, rfl, hg⟩ := hT
  rw [h x y z h1 h2 h3]
  exact ⟨rfl, hg⟩

theorem code_nadd (w : World) (s t : List UInt8) (hs : s.length = 32) (ht : t.length = 32) : Calls Try.prog 27 #[S s, S t] w (Said (addM s t) w) := by
  have A : ∀ W : World, Calls Try.prog 35 #[S s, S t, .func (.func 43) #[] #[]] W (Said (addM s t) W) := fun W =>
    (code_ntwo W s t hs ht _ #[] (fun x y z => z % PP = (x + y) % PP) (fun x y W => rfl) (fun V a b oa ob _ => (code_nplus V a b oa ob).mono fun e w' ⟨l, h1, h2, h3, h4⟩ => ⟨l, h1, h2, h3, h4⟩)).mono
      (two_val s t W _ _ fun x y z h1 h2 h3 => by rw [h3, Nat.add_mod, h1, h2, ← Nat.add_mod]; rfl)
  unfold S at A ⊢
  obtain ⟨V, hV⟩ : ∃ V, V = addM s t := ⟨_, rfl⟩
  rw [← hV] at A ⊢
  clear hV
  go_enter Try.func27, Try.ntmps27
  go_wp2_with fail
  (with_reducible refine (A _).mono ?_)
  rintro e w1 ⟨rfl, hg⟩
  unfold S
  go_wp2_with fail
  refine bodyPost_ret (v := .tuple #[.string ⟨V.toArray⟩, .int .i64 0]) (by simp [results, Try.results27, go_sem]) rfl ?_
  exact ⟨rfl, hg⟩

theorem sub_val (x y z : Nat) (s t : List UInt8) (h1 : x % PP = leN s % PP) (h2 : y % PP = leN t % PP) (h3 : (z + y) % PP = x % PP) : z % PP = (leN s + (PP - leN t % PP)) % PP := by
  have hp : 0 < PP := PP_pos
  rw [Nat.add_mod (leN s), ← h1, ← h2, ← h3, ← Nat.add_mod]
  generalize PP = p at *
  have hy := Nat.mod_lt y hp
  have e : z + y + (p - y % p) = z + p * (y / p + 1) := by
    have := Nat.div_add_mod y p
    rw [Nat.mul_add, Nat.mul_one]
    omega
  rw [e, Nat.add_mul_mod_self_left]

theorem code_nsub (w : World) (s t : List UInt8) (hs : s.length = 32) (ht : t.length = 32) : Calls Try.prog 38 #[S s, S t] w (Said (subM s t) w) := by
  have A : ∀ W : World, Calls Try.prog 35 #[S s, S t, .func (.func 53) #[] #[]] W (Said (subM s t) W) := fun W =>
    (code_ntwo W s t hs ht _ #[] (fun x y z => (z + y) % PP = x % PP) (fun x y W => rfl) (fun V a b oa ob _ => (code_nminus V a b oa ob).mono fun e w' ⟨l, h1, h2, h3, h4⟩ => ⟨l, h1, h2, h3, h4⟩)).mono
      (two_val s t W _ _ fun x y z h1 h2 h3 => by rw [sub_val x y z s t h1 h2 h3]; rfl)
  unfold S at A ⊢
  obtain ⟨V, hV⟩ : ∃ V, V = subM s t := ⟨_, rfl⟩
  rw [← hV] at A ⊢
  clear hV
  go_enter Try.func38, Try.ntmps38
  go_wp2_with fail
  (with_reducible refine (A _).mono ?_)
  rintro e w1 ⟨rfl, hg⟩
  unfold S
  go_wp2_with fail
  refine bodyPost_ret (v := .tuple #[.string ⟨V.toArray⟩, .int .i64 0]) (by simp [results, Try.results38, go_sem]) rfl ?_
  exact ⟨rfl, hg⟩

theorem code_nmul (w : World) (s t : List UInt8) (hs : s.length = 32) (ht : t.length = 32) : Calls Try.prog 26 #[S s, S t] w (Said (mulM s t) w) := by
  have A : ∀ W : World, Calls Try.prog 35 #[S s, S t, .func (.func 42) #[] #[]] W (Said (mulM s t) W) := fun W =>
    (code_ntwo W s t hs ht _ #[] (fun x y z => z % PP = (x * y) % PP) (fun x y W => rfl) (fun V a b oa ob _ => (code_ntimes V a b oa ob).mono fun e w' ⟨l, h1, h2, h3, h4⟩ => ⟨l, h1, h2, h3, h4⟩)).mono
      (two_val s t W _ _ fun x y z h1 h2 h3 => by rw [h3, Nat.mul_mod, h1, h2, ← Nat.mul_mod]; rfl)
  unfold S at A ⊢
  obtain ⟨V, hV⟩ : ∃ V, V = mulM s t := ⟨_, rfl⟩
  rw [← hV] at A ⊢
  clear hV
  go_enter Try.func26, Try.ntmps26
  go_wp2_with fail
  (with_reducible refine (A _).mono ?_)
  rintro e w1 ⟨rfl, hg⟩
  unfold S
  go_wp2_with fail
  refine bodyPost_ret (v := .tuple #[.string ⟨V.toArray⟩, .int .i64 0]) (by simp [results, Try.results26, go_sem]) rfl ?_
  exact ⟨rfl, hg⟩

theorem code_nlow (w : World) (s : List UInt8) (hs : s.length = 32) : Calls Try.prog 28 #[S s] w (Said (lowM s) w) := by
  have A : ∀ W : World, Calls Try.prog 35 #[S s, S s, .func (.func 44) #[] #[]] W (Said (lowM s) W) := fun W =>
    (code_ntwo W s s hs hs _ #[] (fun x y z => z = x) (fun x y W => rfl) (fun V a b oa ob _ => code_nlow1 V a b oa ob)).mono
      (two_val s s W _ _ fun x y z h1 h2 h3 => by rw [h3, h1]; rfl)
  unfold S at A ⊢
  obtain ⟨V, hV⟩ : ∃ V, V = lowM s := ⟨_, rfl⟩
  rw [← hV] at A ⊢
  clear hV
  go_enter Try.func28, Try.ntmps28
  go_wp2_with fail
  (with_reducible refine (A _).mono ?_)
  rintro e w1 ⟨rfl, hg⟩
  unfold S
  go_wp2_with fail
  refine bodyPost_ret (v := .tuple #[.string ⟨V.toArray⟩, .int .i64 0]) (by simp [results, Try.results28, go_sem]) rfl ?_
  exact ⟨rfl, hg⟩

end Go.Proofs.Ytkikabihfldfkaa
