/- The walk of ShaPieces. -/
import Derived.Test.YtdakmkbcepccbaaShaLaws
import Derived.Test.YtdakmkbcepccbaaJoin
import Derived.Test.YtdakmkbcepccbaaOpen
import Derived.Test.YtdakmkbcepccbaaLift
namespace Go.Proofs.Ytdakmkbcepccbaa
open Go.RowKit
set_option linter.unusedVariables false

set_option maxHeartbeats 4000000 in
theorem walk_ShaPieces (a0 : Option Addr) (len0 cap0 : Nat) (w : World) (r0 : IsRecs [.str] w a0 len0 cap0) (u0 : IsStrs w a0 len0 cap0 1048576) :
    Calls Try.prog 3 #[.slice a0 len0 cap0] w fun e w' => e = .returned (.bool true) ∧ Below w.heap.size w w' := by
  obtain ⟨ss, hn, hlc, hcm, hb, hat⟩ := u0
  clear r0
  subst hn
  obtain ⟨n, hn⟩ : ∃ n, n = ss.length := ⟨_, rfl⟩
  have HAT := Lib.hid hat
  have HN := Lib.hid hn
  have AJ : ∀ W, Hid (w.grownBy W none) → Calls Try.prog 12 #[.slice a0 ss.length cap0, S []] W (Grown (S ss.flatten) W) := fun W h => code_join W a0 ss cap0 (HAT.out.keptN h.out) hlc hcm (by omega) (by omega)
  have AT : ∀ (t : List UInt8), t.length ≤ 1048576 → ∀ W, Calls Try.prog 11 #[S t] W (Grown (S (shaL t)) W) := fun t ht W => sha_sum W t (by omega)
  have AH : ∀ (P : Nat) (t : List UInt8) W, Hid (HashOf W P t) → Hid (w.grownBy W none) → Calls Try.prog 10 #[.pointer (some ⟨P, 0, none⟩)] W (fun e w' => e = .returned (S (shaL t)) ∧ Hid (HashOf w' P t) ∧ Hid (w.grownBy w' none)) := fun P t W h g => (hash_sum W P t h.out).mono fun e w' ⟨h1, h2⟩ => ⟨h1, Lib.hid (h.out.kept h2 nofun), Lib.hid (grow_trans g.out h2)⟩
  rw [← hn] at hlc AJ ⊢
  unfold maxLen at hcm
  have HAJ := Lib.hid AJ
  have HATT := Lib.hid AT
  have HAH := Lib.hid AH
  clear hat hn AJ AT AH
  go_enter Try.func3, Try.ntmps3
  go_wp2_with fail
  (with_reducible refine (hash_new _).mono ?_)
  rintro e x1 ⟨P, rfl, hP, hg, hPw⟩
  have HP := Lib.hid hP
  have HG := Lib.hid hg
  have HPW := Lib.hid hPw
  clear hP hg hPw
  go_wp2_with fail
  go_loopw [4, 12] (fun v4 v12 wr => ∃ k : Nat, k ≤ n ∧ v12 = .int .i64 k ∧ Hid (v4 = .string ⟨((ss.take k).flatten).toArray⟩) ∧ Hid (HashOf wr P (ss.take k).flatten) ∧ Hid (w.grownBy wr none)) (fun _ v12 _ => n - (intOf v12).toNat)
  case atStart => exact ⟨0, by omega, rfl, Lib.hid rfl, HP, HG⟩
  case round =>
    clear HP HG
    obtain ⟨k, hk, rfl, h4, hP, hg⟩ := hrel
    have h4 := h4.out
    subst h4
    by_cases hlt : k < n
    · have hks : k < ss.length := by rw [← HN.out]; exact hlt
      obtain ⟨x, rfl, hc⟩ := HAT.out k hks
      have hf := flat_at ss k hks
      have hs := flat_succ ss k hks
      have hc2 := hg.out.cell hc (by simp)
      obtain ⟨t, ht⟩ : ∃ t, t = ss[k] := ⟨_, rfl⟩
      obtain ⟨u, hu⟩ : ∃ u, u = (ss.take k).flatten := ⟨_, rfl⟩
      rw [← ht] at hc2 hf hs
      rw [← hu] at hP hf hs ⊢
      have HS := Lib.hid hs
      have A1 := hash_write wr P u t hP.out (by omega)
      have l1 : (u ++ t).length ≤ 1048576 := by rw [List.length_append]; omega
      have A2 := HAH.out P (u ++ t)
      have A3 := HATT.out (u ++ t) l1
      have k1 : u.length + t.length ≤ 9223372036854775807 := by omega
      have r1 := rule_app
      generalize shaL (u ++ t) = V at *
      unfold S at *
      clear hc ht hu hs
      go_wp2_with fail
      (with_reducible refine A1.mono ?_)
      rintro e x2 ⟨rfl, hP2, hg2⟩
      have HP2 := Lib.hid hP2
      have HG2 := Lib.hid (grow_trans_new hg.out hg2 HPW.out)
      clear hP hg hP2 hg2 A1 hc2
      go_wp2_with fail
      (with_reducible refine (A2 _ HP2 HG2).mono ?_)
      clear HP2 HG2 A2
      rintro e x3 ⟨rfl, HP3, HG3⟩
      go_wp2_with fail
      (with_reducible refine (A3 _).mono ?_)
      rintro e x4 ⟨rfl, hg4⟩
      have HP4 := Lib.hid (HP3.out.kept hg4 nofun)
      have HG4 := Lib.hid (grow_trans HG3.out hg4)
      clear hg4 HP3 HG3 A3
      go_wp2_with fail
      go_roundw
      case rel => exact ⟨k + 1, by omega, by go_num, Lib.hid (by rw [HS.out]), (by rw [HS.out]; exact HP4), HG4⟩
      case measure => simp [intOf]; omega
    · obtain rfl : k = n := by omega
      have hfl : (ss.take k).flatten = ss.flatten := by rw [List.take_of_length_le (by rw [← HN.out]; omega)]
      rw [hfl] at hP
      have AJ := HAJ.out
      obtain ⟨u, hu⟩ : ∃ u, u = ss.flatten := ⟨_, rfl⟩
      have lu : u.length ≤ 1048576 := by rw [hu]; omega
      rw [← hu] at hP AJ
      have A2 := HAH.out P u
      have A3 := HATT.out u lu
      have lV := shaL_length u
      generalize shaL u = V at *
      have z1 : ((V.length : Int) == 32) = true := by rw [lV]; rfl
      unfold S at *
      clear hfl hu HATT HAH HAJ lV
      go_wp2_with fail
      (with_reducible refine (A2 _ hP hg).mono ?_)
      rintro e x3 ⟨rfl, HP3, HG3⟩
      go_wp2_with fail
      (with_reducible refine (AJ _ HG3).mono ?_)
      rintro e x4 ⟨rfl, hg4⟩
      have HP4 := Lib.hid (HP3.out.kept hg4 nofun)
      have HG4 := Lib.hid (grow_trans HG3.out hg4)
      clear hg4 HP3 HG3 AJ hP hg
      go_wp2_with fail
      (with_reducible refine (A3 _).mono ?_)
      rintro e x5 ⟨rfl, hg5⟩
      have HP5 := Lib.hid (HP4.out.kept hg5 nofun)
      have HG5 := Lib.hid (grow_trans HG4.out hg5)
      clear hg5 HP4 HG4 A3
      go_wp2_with fail
      (with_reducible refine (A2 _ HP5 HG5).mono ?_)
      rintro e x6 ⟨rfl, HP6, HG6⟩
      go_wp2_with fail
      go_ret
      exact ⟨rfl, grow_below HG6.out _ (Nat.le_refl _) (by simp)⟩

end Go.Proofs.Ytdakmkbcepccbaa
