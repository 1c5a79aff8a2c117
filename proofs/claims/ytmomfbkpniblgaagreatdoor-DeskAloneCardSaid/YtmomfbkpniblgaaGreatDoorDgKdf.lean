/- Keys of keys: digests of both kinds, and a text's mark by a key. -/
import Derived.Test.YtmomfbkpniblgaaGreatDoorDg07
import Derived.Test.YtmomfbkpniblgaaGreatDoorDgBlSum
import Derived.Test.YtmomfbkpniblgaaGreatDoorDg23
namespace Go.Proofs.YtmomfbkpniblgaaGreatDoor
open Go.RowKit
set_option linter.unusedVariables false

def hashM (suite : Nat) (s : List UInt8) : List UInt8 := if suite = 1 then blL [] s 32 else shaL s
theorem hashM_length (suite : Nat) (s : List UInt8) : (hashM suite s).length = 32 := by
  unfold hashM
  split
  · exact blL_length _ _ _ (by omega)
  · exact shaL_length s
def keyM (suite : Nat) (key : List UInt8) : List UInt8 := if 64 < key.length then hashM suite key else key
theorem keyM_length (suite : Nat) (key : List UInt8) : (keyM suite key).length ≤ 64 := by
  unfold keyM
  split
  · rw [hashM_length]; omega
  · omega
def macM (suite : Nat) (key s : List UInt8) : List UInt8 := hashM suite (padM (keyM suite key) 92 ++ hashM suite (padM (keyM suite key) 54 ++ s))
theorem macM_length (suite : Nat) (key s : List UInt8) : (macM suite key s).length = 32 := hashM_length _ _

theorem code_hash1 (w : World) (s : List UInt8) (hs : s.length ≤ 9223372036854775000) : Calls Tryz.prog 160 #[S s] w (Grown (S (blL [] s 32)) w) := by
  have A1 : ∀ W : World, Calls Tryz.prog 161 #[S [], S s, .int .i64 32] W (Grown (.tuple #[S (blL [] s 32), .int .i64 0]) W) := fun W => code_blsum W [] s 32 (by simp) (by omega) (by omega) hs
  generalize blL [] s 32 = V at *
  unfold S at *
  clear hs
  go_enter Tryz.func160, Tryz.ntmps160
  go_wp2_with fail
  (with_reducible refine (A1 _).mono ?_)
  rintro e x1 ⟨rfl, hg⟩
  go_wp2_with fail
  go_ret
  exact ⟨rfl, hg⟩

theorem hashM_1 (s : List UInt8) : hashM 1 s = blL [] s 32 := by unfold hashM; rw [if_pos rfl]
theorem hashM_2 (s : List UInt8) : hashM 2 s = shaL s := by unfold hashM; rw [if_neg (by decide)]
theorem hash_bl (w : World) (s : List UInt8) (hs : s.length ≤ 9223372036854775000) : Calls Tryz.prog 160 #[S s] w (Grown (S (hashM 1 s)) w) := by
  rw [hashM_1]
  exact code_hash1 w s hs
theorem hash_sh (w : World) (s : List UInt8) (hs : s.length ≤ 9223372036854775000) : Calls Tryz.prog 162 #[S s] w (Grown (S (hashM 2 s)) w) := by
  rw [hashM_2]
  exact sha_sum w s (by omega)
theorem no_nil1 (W : World) : (binOp .eql 59 (.func (.func 160) #[] #[]) Value.nilFunc).run Tryz.prog W = .ok (.bool false) W := by kernel_rfl
theorem no_nil2 (W : World) : (binOp .eql 59 (.func (.func 162) #[] #[]) Value.nilFunc).run Tryz.prog W = .ok (.bool false) W := by kernel_rfl
theorem code_hashOf1 (w : World) : Calls Tryz.prog 105 #[.int .i64 1] w fun e w' => e = .returned (.func (.func 160) #[] #[]) ∧ w = w' := by
  go_enter Tryz.func105, Tryz.ntmps105
  go_wp2
  go_ret
  exact ⟨rfl, rfl⟩
theorem code_hashOf2 (w : World) : Calls Tryz.prog 105 #[.int .i64 2] w fun e w' => e = .returned (.func (.func 162) #[] #[]) ∧ w = w' := by
  go_enter Tryz.func105, Tryz.ntmps105
  go_wp2
  go_ret
  exact ⟨rfl, rfl⟩

set_option maxHeartbeats 1000000 in
theorem code_mac1S (w : World) (key s : List UInt8) (hl : ¬ 64 < key.length) (hk9 : key.length ≤ 9223372036854775000) (hs : s.length ≤ 9223372036854774000) :
    Calls Tryz.prog 60 #[.int .i64 1, S key, S s] w (Grown (.tuple #[S (macM 1 key s), .int .i64 0]) w) := by
  have k1 : ¬ ((64 : Int) < (key.length : Int)) := by omega
  have hk : keyM 1 key = key := by unfold keyM; rw [if_neg hl]
  have lK := keyM_length 1 key
  have lp1 := padM_length (keyM 1 key) 92
  have lp2 := padM_length (keyM 1 key) 54
  have li := hashM_length 1 (padM (keyM 1 key) 54 ++ s)
  have P1 : ∀ W : World, Calls Tryz.prog 106 #[S (keyM 1 key), .int .u8 92] W (Grown (S (padM (keyM 1 key) 92)) W) := fun W => code_pad W (keyM 1 key) 92 lK
  have P2 : ∀ W : World, Calls Tryz.prog 106 #[S (keyM 1 key), .int .u8 54] W (Grown (S (padM (keyM 1 key) 54)) W) := fun W => code_pad W (keyM 1 key) 54 lK
  have H1 : ∀ W : World, Calls Tryz.prog 160 #[S (padM (keyM 1 key) 54 ++ s)] W (Grown (S (hashM 1 (padM (keyM 1 key) 54 ++ s))) W) := fun W => hash_bl W _ (by rw [List.length_append]; omega)
  have H2 : ∀ W : World, Calls Tryz.prog 160 #[S (padM (keyM 1 key) 92 ++ hashM 1 (padM (keyM 1 key) 54 ++ s))] W (Grown (S (macM 1 key s)) W) := fun W => hash_bl W _ (by rw [List.length_append]; omega)
  have r1 := rule_app
  have z1 : (padM (keyM 1 key) 54).length + s.length ≤ 9223372036854775807 := by omega
  have z2 : (padM (keyM 1 key) 92).length + (hashM 1 (padM (keyM 1 key) 54 ++ s)).length ≤ 9223372036854775807 := by omega
  rw [hk] at P1 P2 H1 H2 z1 z2
  generalize macM 1 key s = V at *
  generalize hashM 1 (padM (key) 54 ++ s) = inner at *
  generalize padM (key) 54 = p54 at *
  generalize padM (key) 92 = p92 at *
  unfold S at *
  clear hk lK lp1 lp2 li hk9 hs
  have nf := no_nil1
  go_enter Tryz.func60, Tryz.ntmps60
  go_wp2_with fail
  (with_reducible refine (code_hashOf1 _).mono ?_)
  rintro e x0 ⟨rfl, rfl⟩
  have hg1 : w.grownBy w none := grow_refl _ _
  go_wp2_with fail
  (with_reducible refine (P1 _).mono ?_)
  rintro e x2 ⟨rfl, hg2⟩
  go_wp2_with fail
  (with_reducible refine (P2 _).mono ?_)
  rintro e x3 ⟨rfl, hg3⟩
  have HG := Lib.hid (grow_trans (grow_trans hg1 hg2) hg3)
  clear hg1 hg2 hg3 P1 P2
  go_wp2_with fail
  (with_reducible refine (H1 _).mono ?_)
  rintro e x4 ⟨rfl, hg4⟩
  go_wp2_with fail
  (with_reducible refine (H2 _).mono ?_)
  rintro e x5 ⟨rfl, hg5⟩
  go_wp2_with fail
  go_ret2
  exact ⟨rfl, grow_trans (grow_trans HG.out hg4) hg5⟩

set_option maxHeartbeats 1000000 in
theorem code_mac1L (w : World) (key s : List UInt8) (hl : 64 < key.length) (hk9 : key.length ≤ 9223372036854775000) (hs : s.length ≤ 9223372036854774000) :
    Calls Tryz.prog 60 #[.int .i64 1, S key, S s] w (Grown (.tuple #[S (macM 1 key s), .int .i64 0]) w) := by
  have k1 : (64 : Int) < (key.length : Int) := by omega
  have AK : ∀ W : World, Calls Tryz.prog 160 #[S key] W (Grown (S (hashM 1 key)) W) := fun W => hash_bl W key hk9
  have hk : keyM 1 key = hashM 1 key := by unfold keyM; rw [if_pos hl]
  have lK := keyM_length 1 key
  have lp1 := padM_length (keyM 1 key) 92
  have lp2 := padM_length (keyM 1 key) 54
  have li := hashM_length 1 (padM (keyM 1 key) 54 ++ s)
  have P1 : ∀ W : World, Calls Tryz.prog 106 #[S (keyM 1 key), .int .u8 92] W (Grown (S (padM (keyM 1 key) 92)) W) := fun W => code_pad W (keyM 1 key) 92 lK
  have P2 : ∀ W : World, Calls Tryz.prog 106 #[S (keyM 1 key), .int .u8 54] W (Grown (S (padM (keyM 1 key) 54)) W) := fun W => code_pad W (keyM 1 key) 54 lK
  have H1 : ∀ W : World, Calls Tryz.prog 160 #[S (padM (keyM 1 key) 54 ++ s)] W (Grown (S (hashM 1 (padM (keyM 1 key) 54 ++ s))) W) := fun W => hash_bl W _ (by rw [List.length_append]; omega)
  have H2 : ∀ W : World, Calls Tryz.prog 160 #[S (padM (keyM 1 key) 92 ++ hashM 1 (padM (keyM 1 key) 54 ++ s))] W (Grown (S (macM 1 key s)) W) := fun W => hash_bl W _ (by rw [List.length_append]; omega)
  have r1 := rule_app
  have z1 : (padM (keyM 1 key) 54).length + s.length ≤ 9223372036854775807 := by omega
  have z2 : (padM (keyM 1 key) 92).length + (hashM 1 (padM (keyM 1 key) 54 ++ s)).length ≤ 9223372036854775807 := by omega
  rw [hk] at P1 P2 H1 H2 z1 z2
  generalize macM 1 key s = V at *
  generalize hashM 1 key = k2 at *
  generalize hashM 1 (padM (k2) 54 ++ s) = inner at *
  generalize padM (k2) 54 = p54 at *
  generalize padM (k2) 92 = p92 at *
  unfold S at *
  clear hk lK lp1 lp2 li hk9 hs
  have nf := no_nil1
  go_enter Tryz.func60, Tryz.ntmps60
  go_wp2_with fail
  (with_reducible refine (code_hashOf1 _).mono ?_)
  rintro e x0 ⟨rfl, rfl⟩
  go_wp2_with fail
  (with_reducible refine (AK _).mono ?_)
  rintro e x1 ⟨rfl, hg1⟩
  go_wp2_with fail
  (with_reducible refine (P1 _).mono ?_)
  rintro e x2 ⟨rfl, hg2⟩
  go_wp2_with fail
  (with_reducible refine (P2 _).mono ?_)
  rintro e x3 ⟨rfl, hg3⟩
  have HG := Lib.hid (grow_trans (grow_trans hg1 hg2) hg3)
  clear hg1 hg2 hg3 P1 P2
  go_wp2_with fail
  (with_reducible refine (H1 _).mono ?_)
  rintro e x4 ⟨rfl, hg4⟩
  go_wp2_with fail
  (with_reducible refine (H2 _).mono ?_)
  rintro e x5 ⟨rfl, hg5⟩
  go_wp2_with fail
  go_ret2
  exact ⟨rfl, grow_trans (grow_trans HG.out hg4) hg5⟩

set_option maxHeartbeats 1000000 in
theorem code_mac2S (w : World) (key s : List UInt8) (hl : ¬ 64 < key.length) (hk9 : key.length ≤ 9223372036854775000) (hs : s.length ≤ 9223372036854774000) :
    Calls Tryz.prog 60 #[.int .i64 2, S key, S s] w (Grown (.tuple #[S (macM 2 key s), .int .i64 0]) w) := by
  have k1 : ¬ ((64 : Int) < (key.length : Int)) := by omega
  have hk : keyM 2 key = key := by unfold keyM; rw [if_neg hl]
  have lK := keyM_length 2 key
  have lp1 := padM_length (keyM 2 key) 92
  have lp2 := padM_length (keyM 2 key) 54
  have li := hashM_length 2 (padM (keyM 2 key) 54 ++ s)
  have P1 : ∀ W : World, Calls Tryz.prog 106 #[S (keyM 2 key), .int .u8 92] W (Grown (S (padM (keyM 2 key) 92)) W) := fun W => code_pad W (keyM 2 key) 92 lK
  have P2 : ∀ W : World, Calls Tryz.prog 106 #[S (keyM 2 key), .int .u8 54] W (Grown (S (padM (keyM 2 key) 54)) W) := fun W => code_pad W (keyM 2 key) 54 lK
  have H1 : ∀ W : World, Calls Tryz.prog 162 #[S (padM (keyM 2 key) 54 ++ s)] W (Grown (S (hashM 2 (padM (keyM 2 key) 54 ++ s))) W) := fun W => hash_sh W _ (by rw [List.length_append]; omega)
  have H2 : ∀ W : World, Calls Tryz.prog 162 #[S (padM (keyM 2 key) 92 ++ hashM 2 (padM (keyM 2 key) 54 ++ s))] W (Grown (S (macM 2 key s)) W) := fun W => hash_sh W _ (by rw [List.length_append]; omega)
  have r1 := rule_app
  have z1 : (padM (keyM 2 key) 54).length + s.length ≤ 9223372036854775807 := by omega
  have z2 : (padM (keyM 2 key) 92).length + (hashM 2 (padM (keyM 2 key) 54 ++ s)).length ≤ 9223372036854775807 := by omega
  rw [hk] at P1 P2 H1 H2 z1 z2
  generalize macM 2 key s = V at *
  generalize hashM 2 (padM (key) 54 ++ s) = inner at *
  generalize padM (key) 54 = p54 at *
  generalize padM (key) 92 = p92 at *
  unfold S at *
  clear hk lK lp1 lp2 li hk9 hs
  have nf := no_nil2
  go_enter Tryz.func60, Tryz.ntmps60
  go_wp2_with fail
  (with_reducible refine (code_hashOf2 _).mono ?_)
  rintro e x0 ⟨rfl, rfl⟩
  have hg1 : w.grownBy w none := grow_refl _ _
  go_wp2_with fail
  (with_reducible refine (P1 _).mono ?_)
  rintro e x2 ⟨rfl, hg2⟩
  go_wp2_with fail
  (with_reducible refine (P2 _).mono ?_)
  rintro e x3 ⟨rfl, hg3⟩
  have HG := Lib.hid (grow_trans (grow_trans hg1 hg2) hg3)
  clear hg1 hg2 hg3 P1 P2
  go_wp2_with fail
  (with_reducible refine (H1 _).mono ?_)
  rintro e x4 ⟨rfl, hg4⟩
  go_wp2_with fail
  (with_reducible refine (H2 _).mono ?_)
  rintro e x5 ⟨rfl, hg5⟩
  go_wp2_with fail
  go_ret2
  exact ⟨rfl, grow_trans (grow_trans HG.out hg4) hg5⟩

set_option maxHeartbeats 1000000 in
theorem code_mac2L (w : World) (key s : List UInt8) (hl : 64 < key.length) (hk9 : key.length ≤ 9223372036854775000) (hs : s.length ≤ 9223372036854774000) :
    Calls Tryz.prog 60 #[.int .i64 2, S key, S s] w (Grown (.tuple #[S (macM 2 key s), .int .i64 0]) w) := by
  have k1 : (64 : Int) < (key.length : Int) := by omega
  have AK : ∀ W : World, Calls Tryz.prog 162 #[S key] W (Grown (S (hashM 2 key)) W) := fun W => hash_sh W key (by omega)
  have hk : keyM 2 key = hashM 2 key := by unfold keyM; rw [if_pos hl]
  have lK := keyM_length 2 key
  have lp1 := padM_length (keyM 2 key) 92
  have lp2 := padM_length (keyM 2 key) 54
  have li := hashM_length 2 (padM (keyM 2 key) 54 ++ s)
  have P1 : ∀ W : World, Calls Tryz.prog 106 #[S (keyM 2 key), .int .u8 92] W (Grown (S (padM (keyM 2 key) 92)) W) := fun W => code_pad W (keyM 2 key) 92 lK
  have P2 : ∀ W : World, Calls Tryz.prog 106 #[S (keyM 2 key), .int .u8 54] W (Grown (S (padM (keyM 2 key) 54)) W) := fun W => code_pad W (keyM 2 key) 54 lK
  have H1 : ∀ W : World, Calls Tryz.prog 162 #[S (padM (keyM 2 key) 54 ++ s)] W (Grown (S (hashM 2 (padM (keyM 2 key) 54 ++ s))) W) := fun W => hash_sh W _ (by rw [List.length_append]; omega)
  have H2 : ∀ W : World, Calls Tryz.prog 162 #[S (padM (keyM 2 key) 92 ++ hashM 2 (padM (keyM 2 key) 54 ++ s))] W (Grown (S (macM 2 key s)) W) := fun W => hash_sh W _ (by rw [List.length_append]; omega)
  have r1 := rule_app
  have z1 : (padM (keyM 2 key) 54).length + s.length ≤ 9223372036854775807 := by omega
  have z2 : (padM (keyM 2 key) 92).length + (hashM 2 (padM (keyM 2 key) 54 ++ s)).length ≤ 9223372036854775807 := by omega
  rw [hk] at P1 P2 H1 H2 z1 z2
  generalize macM 2 key s = V at *
  generalize hashM 2 key = k2 at *
  generalize hashM 2 (padM (k2) 54 ++ s) = inner at *
  generalize padM (k2) 54 = p54 at *
  generalize padM (k2) 92 = p92 at *
  unfold S at *
  clear hk lK lp1 lp2 li hk9 hs
  have nf := no_nil2
  go_enter Tryz.func60, Tryz.ntmps60
  go_wp2_with fail
  (with_reducible refine (code_hashOf2 _).mono ?_)
  rintro e x0 ⟨rfl, rfl⟩
  go_wp2_with fail
  (with_reducible refine (AK _).mono ?_)
  rintro e x1 ⟨rfl, hg1⟩
  go_wp2_with fail
  (with_reducible refine (P1 _).mono ?_)
  rintro e x2 ⟨rfl, hg2⟩
  go_wp2_with fail
  (with_reducible refine (P2 _).mono ?_)
  rintro e x3 ⟨rfl, hg3⟩
  have HG := Lib.hid (grow_trans (grow_trans hg1 hg2) hg3)
  clear hg1 hg2 hg3 P1 P2
  go_wp2_with fail
  (with_reducible refine (H1 _).mono ?_)
  rintro e x4 ⟨rfl, hg4⟩
  go_wp2_with fail
  (with_reducible refine (H2 _).mono ?_)
  rintro e x5 ⟨rfl, hg5⟩
  go_wp2_with fail
  go_ret2
  exact ⟨rfl, grow_trans (grow_trans HG.out hg4) hg5⟩

theorem code_mac (w : World) (suite : Nat) (h12 : suite = 1 ∨ suite = 2) (key s : List UInt8) (hk9 : key.length ≤ 9223372036854775000) (hs : s.length ≤ 9223372036854774000) :
    Calls Tryz.prog 60 #[.int .i64 (suite : Int), S key, S s] w (Grown (.tuple #[S (macM suite key s), .int .i64 0]) w) := by
  by_cases hl : 64 < key.length
  · rcases h12 with rfl | rfl
    · exact code_mac1L w key s hl hk9 hs
    · exact code_mac2L w key s hl hk9 hs
  · rcases h12 with rfl | rfl
    · exact code_mac1S w key s hl hk9 hs
    · exact code_mac2S w key s hl hk9 hs

end Go.Proofs.YtmomfbkpniblgaaGreatDoor
