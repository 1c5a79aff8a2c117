/- Sealed by blocks: Open; what is boxed. -/
import Derived.Test.YtpeheefpidggfaaGcmSeal
import Derived.Test.YtpeheefpidggfaaXored
namespace Go.Proofs.Ytpeheefpidggfaa
open Go.RowKit
set_option linter.unusedVariables false

theorem code_gopen_err (w : World) (key nonce more text : List UInt8) (n : Int) (h : gcheckE key nonce more text 2016 = n) (hn : (n == 0) = false) :
    Calls Try.prog 24 #[S key, S nonce, S more, S text] w fun e w' => e = .returned (gnoE n) ∧ w = w' := by
  have H := Lib.hid h
  have hn2 : (n != 0) = true := by simpa using hn
  clear h
  unfold S gnoE
  go_enter Try.func24, Try.ntmps24
  go_wp2_with fail
  refine (code_gcheck w key nonce more text 2016 (by omega)).mono ?_
  rintro e w1 ⟨rfl, rfl⟩
  rw [H.out]
  go_wp2_with fail
  go_ret2
  exact ⟨rfl, rfl⟩

theorem code_gopen_short (w : World) (key nonce more text : List UInt8) (hk : key.length = 32) (hn : nonce.length = 12) (hm : more.length ≤ 2000) (ht : text.length < 16) :
    Calls Try.prog 24 #[S key, S nonce, S more, S text] w fun e w' => e = .returned (gnoE 4) ∧ w = w' := by
  have H := Lib.hid (show gcheckE key nonce more text 2016 = 0 from by unfold gcheckE; rw [if_pos ⟨hk, hn⟩, if_pos ⟨hm, by omega⟩])
  have q : (text.length : Int) < 16 := by omega
  clear hk hn hm ht
  unfold S gnoE
  go_enter Try.func24, Try.ntmps24
  go_wp2_with fail
  refine (code_gcheck w key nonce more text 2016 (by omega)).mono ?_
  rintro e w1 ⟨rfl, rfl⟩
  rw [H.out]
  go_wp2_with fail
  go_ret2
  exact ⟨rfl, rfl⟩

set_option maxHeartbeats 1000000 in
theorem code_gopen (w : World) (key nonce more c : List UInt8) (hk : key.length = 32) (hn : nonce.length = 12) (hm : more.length ≤ 2000) (hc : c.length ≤ 2000) :
    Calls Try.prog 24 #[S key, S nonce, S more, S (c ++ gtagL key nonce more c)] w (GSaid (gcxL key nonce c) w) := by
  have lt := gtagL_length key nonce more c hk hn
  have H := Lib.hid (show gcheckE key nonce more (c ++ gtagL key nonce more c) 2016 = 0 from by unfold gcheckE; rw [if_pos ⟨hk, hn⟩, if_pos ⟨hm, by rw [List.length_append]; omega⟩])
  have A0 : ∀ W : World, Calls Try.prog 44 #[S key] W (NewC W key) := fun W => code_new W key (Or.inr hk)
  have A1 : ∀ (W : World) (C T : Nat), GBox W C T key → Calls Try.prog 45 #[.agg #[.pointer (some ⟨C, 0, none⟩), S nonce], S c] W (Grown (S (gcxL key nonce c)) W) := fun W C T hW => code_gxored W C T key nonce c hW hk hn (by omega)
  have A2 : ∀ (W : World) (C T : Nat), GBox W C T key → Calls Try.prog 46 #[.agg #[.pointer (some ⟨C, 0, none⟩), S nonce], S more, S c] W (Grown (S (gtagL key nonce more c)) W) := fun W C T hW => code_gtag W C T key nonce more _ hW hk hn hm (by omega)
  generalize gtagL key nonce more c = TG at *
  generalize gcxL key nonce c = CT at *
  obtain ⟨U, hU⟩ : ∃ U, U = c ++ TG := ⟨_, rfl⟩
  rw [← hU] at H ⊢
  have lU : U.length = c.length + 16 := by rw [hU, List.length_append, lt]
  have tU : U.take c.length = c := by rw [hU, List.take_left]
  have dU : (U.drop c.length).take (U.length - c.length) = TG := by rw [hU, List.drop_left, List.take_of_length_le (by rw [List.length_append]; omega)]
  have n1 : ¬ ((U.length : Int) < 16) := by omega
  have e1 : ((U.length : Int) - 16) = (c.length : Int) := by omega
  have e2 : (0 : Int) ≤ (c.length : Int) := by omega
  have e3 : (c.length : Int) ≤ (U.length : Int) := by omega
  have e4 : IntKind.i64.wrap (c.length : Int) = (c.length : Int) := IntWalk.i64_in _ (by omega)
  have r2 := rule_ext
  have HC := Lib.hid (fun W : World => code_gcheck W key nonce more U 2016 (by omega))
  clear hU hk hn hm lt lU hc
  unfold S GSaid at *
  go_enter Try.func24, Try.ntmps24
  go_wp2_with fail
  refine (HC.out _).mono ?_
  rintro e w1 ⟨rfl, rfl⟩
  rw [H.out]
  go_wp2_with fail
  (with_reducible refine (A0 _).mono ?_)
  rintro e w2 ⟨C, T, rfl, hC, hT, hC1, hT1, hg2⟩
  have HGB := Lib.hid (show GBox w2 C T key from ⟨hC, hT⟩)
  clear hC hT A0
  go_wp2_with fail
  obtain ⟨x, hx⟩ : ∃ x, x = w2.alloc (.cells #[.pointer (some ⟨C, 0, none⟩), .string ⟨nonce.toArray⟩] 58) := ⟨_, rfl⟩
  obtain ⟨B, hB⟩ : ∃ B, B = w2.heap.size := ⟨_, rfl⟩
  have hgx : w2.grownBy x none := by rw [hx]; exact grow_alloc (grow_refl w2 none) _
  have k0 : x.cell? ⟨B, 0, none⟩ = some (.pointer (some ⟨C, 0, none⟩)) := by rw [hx, hB, obj_cell (obj_new w2 _)]; rfl
  have k2 : x.cell? ⟨B, 1, none⟩ = some (.string ⟨nonce.toArray⟩) := by rw [hx, hB, obj_cell (obj_new w2 _)]; rfl
  rw [← hx, ← hB]
  have HGX := Lib.hid hgx
  clear hx hB hgx
  go_quiet (fail)
  go_wp2_with fail
  (with_reducible refine (A2 _ C T (HGB.out.kept (grow_drewN HGX.out _))).mono ?_)
  rintro e w3 ⟨rfl, hg3⟩
  have m0 := hg3.cell (a := ⟨B, 0, none⟩) k0 nofun
  have m1 := hg3.cell (a := ⟨B, 1, none⟩) k2 nofun
  have HG3 := Lib.hid (grow_trans (grow_drewN HGX.out _) hg3)
  clear k0 k2 hg3 A2
  go_wp2_with fail
  (with_reducible refine (A1 _ C T (HGB.out.kept HG3.out)).mono ?_)
  rintro e w4 ⟨rfl, hg4⟩
  have HF := grow_trans (grow_trans hg2 HG3.out) hg4
  go_wp2_with fail
  go_ret2
  exact ⟨rfl, HF⟩

set_option maxHeartbeats 1000000 in
theorem boxed_ok_gcm (w : World) (key nonce more text other A C : List UInt8) (ho : other.length ≤ 9223372036854775807) (ht : text.length ≤ 2000)
    (C1 : ∀ W : World, Calls Try.prog 23 #[S key, S nonce, S more, S text] W (GSaid A W)) (C2 : ∀ W : World, Calls Try.prog 24 #[S key, S nonce, S more, S A] W (GSaid text W))
    (C3 : ∀ W : World, Calls Try.prog 23 #[S key, S nonce, S more, S (sizedL other text.length)] W (GSaid C W)) (lA : A.length = text.length + 16) (lC : C.length = text.length + 16)
    (hx : xorL (A.take text.length) (C.take text.length) = xorL text (sizedL other text.length)) :
    Calls Try.prog 25 #[.func (.func 23) #[] #[], .func (.func 24) #[] #[], S key, S nonce, S more, S text, S other] w (Grown (.bool true) w) := by
  have A1 : ∀ W : World, Calls Try.prog 17 #[S other, .int .i64 text.length] W (Grown (S (sizedL other text.length)) W) := fun W => code_sized W other text.length ho (by omega)
  have lo := sizedL_length other text.length
  generalize sizedL other text.length = O at *
  have X1 : ∀ W : World, Calls Try.prog 20 #[S (A.take text.length), S (C.take text.length)] W (GrowsTo (S (xorL text O)) W) := fun W => by
    have := keep_xored W (A.take text.length) (C.take text.length) (by rw [List.length_take]; omega) (by rw [List.length_take]; omega)
    rwa [hx] at this
  have X2 : ∀ W : World, Calls Try.prog 20 #[S text, S O] W (GrowsTo (S (xorL text O)) W) := fun W => keep_xored W text O (by omega) (by omega)
  generalize xorL text O = X at *
  have e1 : ((A.length : Int) != (text.length : Int) + 16) = false := by rw [lA]; simp
  have e2 : ((C.length : Int) != (A.length : Int)) = false := by rw [lA, lC]; simp
  have b0 : (0 : Int) ≤ (text.length : Int) := by omega
  have b1 : (text.length : Int) ≤ (A.length : Int) := by omega
  have b2 : (text.length : Int) ≤ (C.length : Int) := by omega
  have b3 : text.length ≤ A.length := by omega
  have b4 : text.length ≤ C.length := by omega
  have r2 := rule_ext
  clear hx lo
  have LA := Lib.hid lA
  have LC := Lib.hid lC
  unfold S GSaid GrowsTo at *
  go_enter Try.func25, Try.ntmps25
  go_wp2_with fail
  refine (C1 _).mono ?_
  rintro e x1 ⟨rfl, hg1⟩
  go_wp2_with fail
  refine (C2 _).mono ?_
  rintro e x2 ⟨rfl, hg2⟩
  go_wp2_with fail
  refine (A1 _).mono ?_
  rintro e x3 ⟨rfl, hg3⟩
  go_wp2_with fail
  refine (C3 _).mono ?_
  rintro e x4 ⟨rfl, hg4⟩
  unfold S
  go_wp2_with fail
  go_region_with (first
    | (go_at_call 20; (with_reducible refine (X1 _).mono ?_); rintro e x5 ⟨rfl, hg5⟩)
    | (go_at_call 20; (with_reducible refine (X2 _).mono ?_); rintro e x6 ⟨rfl, hg6⟩))
  all_goals
    go_wp2_with fail
    go_ret
    exact ⟨rfl, grow_trans (grow_trans (grow_trans (grow_trans (grow_drew (grow_trans (grow_trans (grow_trans hg1 hg2) hg3) hg4)) hg5) hg6) (grow_refl _ _)) (grow_refl _ _)⟩

set_option maxHeartbeats 1000000 in
theorem boxed_large_gcm (w : World) (key nonce more text other : List UInt8)
    (C1 : ∀ W : World, Calls Try.prog 23 #[S key, S nonce, S more, S text] W (Grown (gnoE 2) W)) (h : 2000 < text.length ∨ 2000 < more.length) :
    Calls Try.prog 25 #[.func (.func 23) #[] #[], .func (.func 24) #[] #[], S key, S nonce, S more, S text, S other] w (Grown (.bool true) w) := by
  unfold S gnoE at *
  by_cases h1 : 2000 < text.length
  · have q1 : (2000 : Int) < (text.length : Int) := by omega
    clear h
    go_enter Try.func25, Try.ntmps25
    go_wp2_with fail
    refine (C1 _).mono ?_
    rintro e x1 ⟨rfl, hg1⟩
    unfold S
    go_wp2_with fail
    go_ret
    exact ⟨rfl, hg1⟩
  · have q1 : ¬ (2000 : Int) < (text.length : Int) := by omega
    have q2 : (2000 : Int) < (more.length : Int) := by omega
    clear h
    go_enter Try.func25, Try.ntmps25
    go_wp2_with fail
    refine (C1 _).mono ?_
    rintro e x1 ⟨rfl, hg1⟩
    unfold S
    go_wp2_with fail
    go_ret
    exact ⟨rfl, hg1⟩


theorem gcm_boxed (w : World) (K O more text other : List UInt8) (hk : K.length = 32) (hn : O.length = 12) (h4 : other.length ≤ 9223372036854775807) :
    Calls Try.prog 25 #[.func (.func 23) #[] #[], .func (.func 24) #[] #[], S K, S O, S more, S text, S other] w (Grown (.bool true) w) := by
  by_cases h : 2000 < text.length ∨ 2000 < more.length
  · refine boxed_large_gcm w K O more text other (fun W => ?_) h
    refine (code_gseal_err W K O more text 2 (by unfold gcheckE; rw [if_pos ⟨hk, hn⟩, if_neg (by omega)]) (by rfl)).mono ?_
    rintro e w' ⟨rfl, rfl⟩
    exact ⟨rfl, grow_refl _ _⟩
  · have lo := sizedL_length other text.length
    refine boxed_ok_gcm w K O more text other (gsealL K O more text) (gsealL K O more (sizedL other text.length)) h4 (by omega) (fun W => code_gseal W K O more text hk hn (by omega) (by omega)) (fun W => ?_) (fun W => code_gseal W K O more _ hk hn (by omega) (by omega)) (gsealL_length _ _ _ _ hk hn) (by rw [gsealL_length _ _ _ _ hk hn, lo]) ?_
    · have := code_gopen W K O more (gcxL K O text) hk hn (by omega) (by rw [gcxL_length _ _ _ hk hn]; omega)
      rwa [gcxL_twice K O text hk hn] at this
    · rw [gsealL_take _ _ _ _ hk hn]
      have := gsealL_take K O more (sizedL other text.length) hk hn
      rw [lo] at this
      rw [this, gcxL_pair K O text _ hk hn lo]

end Go.Proofs.Ytpeheefpidggfaa
