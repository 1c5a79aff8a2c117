/-
  Several texts of this claim in one: SealOpen, SealBad.
-/
import Derived.Test.YtmomfbkpniblgaaGreatDoorDgSeal
namespace Go.Proofs.YtmomfbkpniblgaaGreatDoor
open Go.RowKit
set_option linter.unusedVariables false

/-- What the check answers. -/
def checkE (key nonce more text : List UInt8) (most : Nat) : Int := if key.length = 32 ∧ nonce.length = 12 then (if more.length ≤ 2000 ∧ text.length ≤ most then 0 else 2) else 1

set_option maxHeartbeats 1000000 in
theorem code_echeck (w : World) (key nonce more text : List UInt8) (most : Nat) (hm : most ≤ 100000) :
    Calls Tryz.prog 154 #[S key, S nonce, S more, S text, .int .i64 most] w fun e w' => e = .returned (.int .i64 (checkE key nonce more text most)) ∧ w = w' := by
  obtain ⟨V, hV⟩ : ∃ V, V = checkE key nonce more text most := ⟨_, rfl⟩
  rw [← hV]
  have HV := Lib.hid hV
  clear hV
  unfold S
  by_cases h1 : key.length = 32
  · have q1 : ((key.length : Int) != 32) = false := by simp; omega
    by_cases h2 : nonce.length = 12
    · have q2 : ((nonce.length : Int) != 12) = false := by simp; omega
      by_cases h3 : more.length ≤ 2000
      · have q3 : decide ((2000 : Int) < (more.length : Int)) = false := by simp; omega
        by_cases h4 : text.length ≤ most
        · have q4 : ¬ most < text.length := by omega
          have HR := Lib.hid (show V = 0 from by rw [HV.out]; unfold checkE; rw [if_pos ⟨h1, h2⟩, if_pos ⟨h3, h4⟩])
          clear h1 h2 h3 h4 HV
          go_enter Tryz.func154, Tryz.ntmps154
          go_wp2_with fail
          go_ret
          exact ⟨by rw [HR.out]; rfl, rfl⟩
        · have q4 : most < text.length := by omega
          have HR := Lib.hid (show V = 2 from by rw [HV.out]; unfold checkE; rw [if_pos ⟨h1, h2⟩, if_neg (by omega)])
          clear h1 h2 h3 h4 HV
          go_enter Tryz.func154, Tryz.ntmps154
          go_wp2_with fail
          go_ret
          exact ⟨by rw [HR.out]; rfl, rfl⟩
      · have q3 : decide ((2000 : Int) < (more.length : Int)) = true := by simp; omega
        have HR := Lib.hid (show V = 2 from by rw [HV.out]; unfold checkE; rw [if_pos ⟨h1, h2⟩, if_neg (by omega)])
        clear h1 h2 h3 HV
        go_enter Tryz.func154, Tryz.ntmps154
        go_wp2_with fail
        go_ret
        exact ⟨by rw [HR.out]; rfl, rfl⟩
    · have q2 : ((nonce.length : Int) != 12) = true := by simp; omega
      have HR := Lib.hid (show V = 1 from by rw [HV.out]; unfold checkE; rw [if_neg (by omega)])
      clear h1 h2 HV
      go_enter Tryz.func154, Tryz.ntmps154
      go_wp2_with fail
      go_ret
      exact ⟨by rw [HR.out]; rfl, rfl⟩
  · have q1 : ((key.length : Int) != 32) = true := by simp; omega
    have HR := Lib.hid (show V = 1 from by rw [HV.out]; unfold checkE; rw [if_neg (by omega)])
    clear h1 HV
    go_enter Tryz.func154, Tryz.ntmps154
    go_wp2_with fail
    go_ret
    exact ⟨by rw [HR.out]; rfl, rfl⟩

def noTextE (n : Int) : Value := .tuple #[S [], .int .i64 n]

theorem code_seal_err (w : World) (key nonce more text : List UInt8) (n : Int) (h : checkE key nonce more text 2000 = n) (hn : (n == 0) = false) :
    Calls Tryz.prog 101 #[S key, S nonce, S more, S text] w fun e w' => e = .returned (noTextE n) ∧ w = w' := by
  have H := Lib.hid h
  have hn2 : (n != 0) = true := by simpa using hn
  clear h
  unfold S noTextE
  go_enter Tryz.func101, Tryz.ntmps101
  go_wp2_with fail
  refine (code_echeck w key nonce more text 2000 (by omega)).mono ?_
  rintro e w1 ⟨rfl, rfl⟩
  rw [H.out]
  go_wp2_with fail
  go_ret2
  exact ⟨rfl, rfl⟩

set_option maxHeartbeats 1000000 in
theorem code_seal (w : World) (key nonce more text : List UInt8) (hk : key.length = 32) (hn : nonce.length = 12) (hm : more.length ≤ 2000) (ht : text.length ≤ 2000) :
    Calls Tryz.prog 101 #[S key, S nonce, S more, S text] w (Blocked (sealL key nonce more text) w) := by
  have H := Lib.hid (show checkE key nonce more text 2000 = 0 from by unfold checkE; rw [if_pos ⟨hk, hn⟩, if_pos ⟨hm, ht⟩])
  have hV : sealL key nonce more text = chxL key nonce 1 text ++ sealTagL key nonce more (chxL key nonce 1 text) := rfl
  generalize sealL key nonce more text = V at *
  have A1 : ∀ W : World, Calls Tryz.prog 155 #[S key, S nonce, .int .u32 1, S text] W (Blocked (chxL key nonce 1 text) W) := fun W => code_cxor W key nonce text 1 hk hn (by omega) ht
  have lc := chxL_length key nonce 1 text
  have A2 : ∀ W : World, Calls Tryz.prog 156 #[S key, S nonce, S more, S (chxL key nonce 1 text)] W (Grown (S (sealTagL key nonce more (chxL key nonce 1 text))) W) := fun W => code_etag W key nonce more _ hk hn (by omega) (by omega)
  have lt := sealTagL_length key nonce more (chxL key nonce 1 text)
  generalize sealTagL key nonce more (chxL key nonce 1 text) = T at *
  generalize chxL key nonce 1 text = C at *
  have HV := Lib.hid hV
  have k1 : C.length + T.length ≤ 9223372036854775807 := by omega
  have r1 := rule_app
  clear hV hk hn hm lc lt
  unfold S Blocked at *
  go_enter Tryz.func101, Tryz.ntmps101
  go_wp2_with fail
  refine (code_echeck w key nonce more text 2000 (by omega)).mono ?_
  rintro e w1 ⟨rfl, rfl⟩
  rw [H.out]
  go_wp2_with fail
  refine (A1 _).mono ?_
  rintro e w2 ⟨rfl, hg2⟩
  unfold S
  go_wp2_with fail
  refine (A2 _).mono ?_
  rintro e w3 ⟨rfl, hg3⟩
  go_wp2_with fail
  rw [HV.out]
  go_ret2
  exact ⟨rfl, grow_trans hg2 hg3⟩

/-- Opened: what is no box. -/
theorem code_open_err (w : World) (key nonce more text : List UInt8) (n : Int) (h : checkE key nonce more text 2016 = n) (hn : (n == 0) = false) :
    Calls Tryz.prog 103 #[S key, S nonce, S more, S text] w fun e w' => e = .returned (noTextE n) ∧ w = w' := by
  have H := Lib.hid h
  have hn2 : (n != 0) = true := by simpa using hn
  clear h
  unfold S noTextE
  go_enter Tryz.func103, Tryz.ntmps103
  go_wp2_with fail
  refine (code_echeck w key nonce more text 2016 (by omega)).mono ?_
  rintro e w1 ⟨rfl, rfl⟩
  rw [H.out]
  go_wp2_with fail
  go_ret2
  exact ⟨rfl, rfl⟩

theorem code_open_short (w : World) (key nonce more text : List UInt8) (hk : key.length = 32) (hn : nonce.length = 12) (hm : more.length ≤ 2000) (ht : text.length < 16) :
    Calls Tryz.prog 103 #[S key, S nonce, S more, S text] w fun e w' => e = .returned (noTextE 4) ∧ w = w' := by
  have H := Lib.hid (show checkE key nonce more text 2016 = 0 from by unfold checkE; rw [if_pos ⟨hk, hn⟩, if_pos ⟨hm, by omega⟩])
  have q : (text.length : Int) < 16 := by omega
  clear hk hn hm ht
  unfold S noTextE
  go_enter Tryz.func103, Tryz.ntmps103
  go_wp2_with fail
  refine (code_echeck w key nonce more text 2016 (by omega)).mono ?_
  rintro e w1 ⟨rfl, rfl⟩
  rw [H.out]
  go_wp2_with fail
  go_ret2
  exact ⟨rfl, rfl⟩

/-- Opened: a box. -/
theorem code_open (w : World) (key nonce more c : List UInt8) (hk : key.length = 32) (hn : nonce.length = 12) (hm : more.length ≤ 2000) (hc : c.length ≤ 2000) :
    Calls Tryz.prog 103 #[S key, S nonce, S more, S (c ++ sealTagL key nonce more c)] w (Blocked (chxL key nonce 1 c) w) := by
  have lt := sealTagL_length key nonce more c
  have H := Lib.hid (show checkE key nonce more (c ++ sealTagL key nonce more c) 2016 = 0 from by unfold checkE; rw [if_pos ⟨hk, hn⟩, if_pos ⟨hm, by rw [List.length_append]; omega⟩])
  have A1 : ∀ W : World, Calls Tryz.prog 155 #[S key, S nonce, .int .u32 1, S c] W (Blocked (chxL key nonce 1 c) W) := fun W => code_cxor W key nonce c 1 hk hn (by omega) hc
  have A2 : ∀ W : World, Calls Tryz.prog 156 #[S key, S nonce, S more, S c] W (Grown (S (sealTagL key nonce more c)) W) := fun W => code_etag W key nonce more _ hk hn (by omega) (by omega)
  generalize sealTagL key nonce more c = T at *
  generalize chxL key nonce 1 c = C at *
  obtain ⟨U, hU⟩ : ∃ U, U = c ++ T := ⟨_, rfl⟩
  rw [← hU] at H ⊢
  have lU : U.length = c.length + 16 := by rw [hU, List.length_append, lt]
  have tU : U.take c.length = c := by rw [hU, List.take_left]
  have n1 : ¬ ((U.length : Int) < 16) := by omega
  have e1 : ((U.length : Int) - 16) = (c.length : Int) := by omega
  have e2 : (0 : Int) ≤ (c.length : Int) := by omega
  have e3 : (c.length : Int) ≤ (U.length : Int) := by omega
  have r1 := rule_app
  have r2 := rule_ext
  have k1 : c.length + T.length ≤ 9223372036854775807 := by omega
  have HU := Lib.hid hU
  have q : (c ++ T == U) = true := beq_iff_eq.mpr hU.symm
  clear hU hk hn hm lt lU hc
  unfold S Blocked at *
  go_enter Tryz.func103, Tryz.ntmps103
  go_wp2_with fail
  refine (code_echeck w key nonce more U 2016 (by omega)).mono ?_
  rintro e w1 ⟨rfl, rfl⟩
  rw [H.out]
  go_wp2_with fail
  refine (A2 _).mono ?_
  rintro e w2 ⟨rfl, hg2⟩
  go_wp2_with fail
  refine (A1 _).mono ?_
  rintro e w3 ⟨rfl, hg3⟩
  unfold S
  go_wp2_with fail
  go_ret2
  exact ⟨rfl, grow_trans hg2 hg3⟩

end Go.Proofs.YtmomfbkpniblgaaGreatDoor

namespace Go.Proofs.YtmomfbkpniblgaaGreatDoor
open Go.RowKit
set_option linter.unusedVariables false

theorem code_open_bad (w : World) (key nonce more c t : List UInt8) (hk : key.length = 32) (hn : nonce.length = 12) (hm : more.length ≤ 2000) (hc : c.length ≤ 2000) (lt : t.length = 16) (hne : t ≠ sealTagL key nonce more c) :
    Calls Tryz.prog 103 #[S key, S nonce, S more, S (c ++ t)] w (Grown (noTextE 6) w) := by
  have H := Lib.hid (show checkE key nonce more (c ++ t) 2016 = 0 from by unfold checkE; rw [if_pos ⟨hk, hn⟩, if_pos ⟨hm, by rw [List.length_append]; omega⟩])
  have A2 : ∀ W : World, Calls Tryz.prog 156 #[S key, S nonce, S more, S c] W (Grown (S (sealTagL key nonce more c)) W) := fun W => code_etag W key nonce more _ hk hn (by omega) (by omega)
  have ltT := sealTagL_length key nonce more c
  generalize sealTagL key nonce more c = T at *
  obtain ⟨U, hU⟩ : ∃ U, U = c ++ t := ⟨_, rfl⟩
  rw [← hU] at H ⊢
  have lU : U.length = c.length + 16 := by rw [hU, List.length_append, lt]
  have tU : U.take c.length = c := by rw [hU, List.take_left]
  have n1 : ¬ ((U.length : Int) < 16) := by omega
  have e1 : ((U.length : Int) - 16) = (c.length : Int) := by omega
  have e2 : (0 : Int) ≤ (c.length : Int) := by omega
  have e3 : (c.length : Int) ≤ (U.length : Int) := by omega
  have r1 := rule_app
  have r2 := rule_ext
  have k1 : c.length + T.length ≤ 9223372036854775807 := by omega
  have HU := Lib.hid hU
  have q : (c ++ T == U) = false := by
    rw [beq_eq_false_iff_ne, hU]
    intro e
    exact hne (List.append_cancel_left e).symm
  clear hU hk hn hm lt lU hc hne ltT
  unfold S noTextE Grown at *
  go_enter Tryz.func103, Tryz.ntmps103
  go_wp2_with fail
  refine (code_echeck w key nonce more U 2016 (by omega)).mono ?_
  rintro e w1 ⟨rfl, rfl⟩
  rw [H.out]
  go_wp2_with fail
  refine (A2 _).mono ?_
  rintro e w2 ⟨rfl, hg2⟩
  go_wp2_with fail
  go_ret2
  exact ⟨rfl, hg2⟩

/-- Opened, whatever it is. -/
theorem code_open_any (key nonce more text : List UInt8) (hm : more.length ≤ 2000) (ht : text.length ≤ 2016) :
    ∃ (s : List UInt8) (n : Nat), s.length ≤ 2016 ∧ n ≤ 15 ∧ ∀ w : World, Calls Tryz.prog 103 #[S key, S nonce, S more, S text] w (Grown (.tuple #[S s, .int .i64 (n : Int)]) w) := by
  by_cases h : key.length = 32 ∧ nonce.length = 12
  · by_cases h16 : text.length < 16
    · exact ⟨[], 4, by simp, by omega, fun w => (code_open_short w key nonce more text h.1 h.2 hm h16).mono fun e w' ⟨h1, h2⟩ => ⟨h1, h2 ▸ grow_refl _ _⟩⟩
    · have e : text = text.take (text.length - 16) ++ text.drop (text.length - 16) := (List.take_append_drop _ _).symm
      have l1 : (text.take (text.length - 16)).length = text.length - 16 := by rw [List.length_take]; omega
      have l2 : (text.drop (text.length - 16)).length = 16 := by rw [List.length_drop]; omega
      by_cases hq : text.drop (text.length - 16) = sealTagL key nonce more (text.take (text.length - 16))
      · refine ⟨chxL key nonce 1 (text.take (text.length - 16)), 0, ?_, by omega, fun w => ?_⟩
        rotate_left
        · have := code_open w key nonce more (text.take (text.length - 16)) h.1 h.2 hm (by omega)
          rw [← hq, ← e] at this
          exact this
        · rw [chxL_length]; omega
      · exact ⟨[], 6, by simp, by omega, fun w => by
          have := code_open_bad w key nonce more _ _ h.1 h.2 hm (by omega) l2 hq
          rwa [← e] at this⟩
  · have hc : checkE key nonce more text 2016 = 1 := if_neg h
    exact ⟨[], 1, by simp, by omega, fun w => (code_open_err w key nonce more text 1 hc rfl).mono fun e w' ⟨h1, h2⟩ => ⟨h1, h2 ▸ grow_refl _ _⟩⟩

end Go.Proofs.YtmomfbkpniblgaaGreatDoor
