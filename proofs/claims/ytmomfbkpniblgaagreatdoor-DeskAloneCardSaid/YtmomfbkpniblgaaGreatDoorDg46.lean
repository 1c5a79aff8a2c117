/-
  Several texts of this claim in one: GcmOpen, GcmBad.
-/
import Derived.Test.YtmomfbkpniblgaaGreatDoorDgGcmSeal
import Derived.Test.YtmomfbkpniblgaaGreatDoorDgWxor
namespace Go.Proofs.YtmomfbkpniblgaaGreatDoor
open Go.RowKit
set_option linter.unusedVariables false

theorem code_gopen_err (w : World) (key nonce more text : List UInt8) (n : Int) (h : gcheckE key nonce more text 2016 = n) (hn : (n == 0) = false) :
    Calls Tryz.prog 104 #[S key, S nonce, S more, S text] w fun e w' => e = .returned (gnoE n) ∧ w = w' := by
  have H := Lib.hid h
  have hn2 : (n != 0) = true := by simpa using hn
  clear h
  unfold S gnoE
  go_enter Tryz.func104, Tryz.ntmps104
  go_wp2_with fail
  refine (code_gcheck w key nonce more text 2016 (by omega)).mono ?_
  rintro e w1 ⟨rfl, rfl⟩
  rw [H.out]
  go_wp2_with fail
  go_ret2
  exact ⟨rfl, rfl⟩

theorem code_gopen_short (w : World) (key nonce more text : List UInt8) (hk : key.length = 32) (hn : nonce.length = 12) (hm : more.length ≤ 2000) (ht : text.length < 16) :
    Calls Tryz.prog 104 #[S key, S nonce, S more, S text] w fun e w' => e = .returned (gnoE 4) ∧ w = w' := by
  have H := Lib.hid (show gcheckE key nonce more text 2016 = 0 from by unfold gcheckE; rw [if_pos ⟨hk, hn⟩, if_pos ⟨hm, by omega⟩])
  have q : (text.length : Int) < 16 := by omega
  clear hk hn hm ht
  unfold S gnoE
  go_enter Tryz.func104, Tryz.ntmps104
  go_wp2_with fail
  refine (code_gcheck w key nonce more text 2016 (by omega)).mono ?_
  rintro e w1 ⟨rfl, rfl⟩
  rw [H.out]
  go_wp2_with fail
  go_ret2
  exact ⟨rfl, rfl⟩

set_option maxRecDepth 100000 in
set_option maxHeartbeats 1000000 in
theorem code_gopen (w : World) (key nonce more c : List UInt8) (hk : key.length = 32) (hn : nonce.length = 12) (hm : more.length ≤ 2000) (hc : c.length ≤ 2000) :
    Calls Tryz.prog 104 #[S key, S nonce, S more, S (c ++ gtagL key nonce more c)] w (GSaid (gcxL key nonce c) w) := by
  have lt := gtagL_length key nonce more c hk hn
  have H := Lib.hid (show gcheckE key nonce more (c ++ gtagL key nonce more c) 2016 = 0 from by unfold gcheckE; rw [if_pos ⟨hk, hn⟩, if_pos ⟨hm, by rw [List.length_append]; omega⟩])
  have A0 : ∀ W : World, Calls Tryz.prog 149 #[S key] W (NewC W key) := fun W => code_anew W key (Or.inr hk)
  have A1 : ∀ (W : World) (C T : Nat), GBox W C T key → Calls Tryz.prog 158 #[.agg #[.pointer (some ⟨C, 0, none⟩), S nonce], S c] W (Grown (S (gcxL key nonce c)) W) := fun W C T hW => code_gxored W C T key nonce c hW hk hn (by omega)
  have A2 : ∀ (W : World) (C T : Nat), GBox W C T key → Calls Tryz.prog 159 #[.agg #[.pointer (some ⟨C, 0, none⟩), S nonce], S more, S c] W (Grown (S (gtagL key nonce more c)) W) := fun W C T hW => code_gtag W C T key nonce more _ hW hk hn hm (by omega)
  generalize gtagL key nonce more c = TG at *
  generalize gcxL key nonce c = CT at *
  obtain ⟨U, hU⟩ : ∃ U, U = c ++ TG := ⟨_, rfl⟩
  rw [← hU] at H ⊢
  have lU : U.length = c.length + 16 := by rw [hU, List.length_append, lt]
  have tU : U.take c.length = c := by rw [hU, List.take_left]
  have dU : (U.drop c.length).take (U.length - c.length) = TG := by rw [hU, List.drop_left, List.take_of_length_le (by rw [List.length_append]; omega)]
  have n1 : ¬ ((U.length : Int) < 16) := by omega
  have e1 : ((U.length : Int) - 16) = (c.length : Int) := by omega
  have e2 : (0 : Int) ≤ (c.length : Int) := by omega
  have e3 : (c.length : Int) ≤ (U.length : Int) := by omega
  have e4 : IntKind.i64.wrap (c.length : Int) = (c.length : Int) := IntWalk.i64_in _ (by omega)
  have r2 := rule_ext
  have HC := Lib.hid (fun W : World => code_gcheck W key nonce more U 2016 (by omega))
  clear hU hk hn hm lt lU hc
  unfold S GSaid at *
  go_enter Tryz.func104, Tryz.ntmps104
  go_wp2_with fail
  refine (HC.out _).mono ?_
  rintro e w1 ⟨rfl, rfl⟩
  rw [H.out]
  go_wp2_with fail
  (with_reducible refine (A0 _).mono ?_)
  rintro e w2 ⟨C, T, rfl, hC, hT, hC1, hT1, hg2⟩
  have HGB := Lib.hid (show GBox w2 C T key from ⟨hC, hT⟩)
  clear hC hT A0
  go_wp2_with fail
  obtain ⟨x, hx⟩ : ∃ x, x = w2.alloc (.cells #[.pointer (some ⟨C, 0, none⟩), .string ⟨nonce.toArray⟩] 237) := ⟨_, rfl⟩
  obtain ⟨B, hB⟩ : ∃ B, B = w2.heap.size := ⟨_, rfl⟩
  have hgx : w2.grownBy x none := by rw [hx]; exact grow_alloc (grow_refl w2 none) _
  have k0 : x.cell? ⟨B, 0, none⟩ = some (.pointer (some ⟨C, 0, none⟩)) := by rw [hx, hB, obj_cell (obj_new w2 _)]; rfl
  have k2 : x.cell? ⟨B, 1, none⟩ = some (.string ⟨nonce.toArray⟩) := by rw [hx, hB, obj_cell (obj_new w2 _)]; rfl
  rw [← hx, ← hB]
  have HGX := Lib.hid hgx
  clear hx hB hgx
  go_quiet (fail)
  go_wp2_with fail
  (with_reducible refine (A2 _ C T (HGB.out.kept (grow_drewN HGX.out _))).mono ?_)
  rintro e w3 ⟨rfl, hg3⟩
  have m0 := hg3.cell (a := ⟨B, 0, none⟩) k0 nofun
  have m1 := hg3.cell (a := ⟨B, 1, none⟩) k2 nofun
  have HG3 := Lib.hid (grow_trans (grow_drewN HGX.out _) hg3)
  clear k0 k2 hg3 A2
  go_wp2_with fail
  (with_reducible refine (A1 _ C T (HGB.out.kept HG3.out)).mono ?_)
  rintro e w4 ⟨rfl, hg4⟩
  have HF := grow_trans (grow_trans hg2 HG3.out) hg4
  go_wp2_with fail
  go_ret2
  exact ⟨rfl, HF⟩

end Go.Proofs.YtmomfbkpniblgaaGreatDoor

namespace Go.Proofs.YtmomfbkpniblgaaGreatDoor
open Go.RowKit
set_option linter.unusedVariables false

set_option maxRecDepth 100000 in
set_option maxHeartbeats 1000000 in
theorem code_gopen_bad (w : World) (key nonce more c t : List UInt8) (hk : key.length = 32) (hn : nonce.length = 12) (hm : more.length ≤ 2000) (hc : c.length ≤ 2000) (lt : t.length = 16) (hne : t ≠ gtagL key nonce more c) :
    Calls Tryz.prog 104 #[S key, S nonce, S more, S (c ++ t)] w (Grown (.tuple #[S [], .int .i64 6]) w) := by
  have ltT := gtagL_length key nonce more c hk hn
  have H := Lib.hid (show gcheckE key nonce more (c ++ t) 2016 = 0 from by unfold gcheckE; rw [if_pos ⟨hk, hn⟩, if_pos ⟨hm, by rw [List.length_append]; omega⟩])
  have A0 : ∀ W : World, Calls Tryz.prog 149 #[S key] W (NewC W key) := fun W => code_anew W key (Or.inr hk)
  have A2 : ∀ (W : World) (C T : Nat), GBox W C T key → Calls Tryz.prog 159 #[.agg #[.pointer (some ⟨C, 0, none⟩), S nonce], S more, S c] W (Grown (S (gtagL key nonce more c)) W) := fun W C T hW => code_gtag W C T key nonce more _ hW hk hn hm (by omega)
  generalize gtagL key nonce more c = TG at *
  obtain ⟨U, hU⟩ : ∃ U, U = c ++ t := ⟨_, rfl⟩
  rw [← hU] at H ⊢
  have lU : U.length = c.length + 16 := by rw [hU, List.length_append, lt]
  have tU : U.take c.length = c := by rw [hU, List.take_left]
  have dU : (U.drop c.length).take (U.length - c.length) = t := by rw [hU, List.drop_left, List.take_of_length_le (by rw [List.length_append]; omega)]
  have n1 : ¬ ((U.length : Int) < 16) := by omega
  have e1 : ((U.length : Int) - 16) = (c.length : Int) := by omega
  have e2 : (0 : Int) ≤ (c.length : Int) := by omega
  have e3 : (c.length : Int) ≤ (U.length : Int) := by omega
  have e4 : IntKind.i64.wrap (c.length : Int) = (c.length : Int) := IntWalk.i64_in _ (by omega)
  have r2 := rule_ext
  have q : (TG == t) = false := by rw [beq_eq_false_iff_ne]; exact fun e => hne e.symm
  have q2 : (TG != t) = true := by rw [bne_iff_ne]; exact fun e => hne e.symm
  have HC := Lib.hid (fun W : World => code_gcheck W key nonce more U 2016 (by omega))
  clear hU hk hn hm lt lU hc hne ltT
  unfold S Grown at *
  go_enter Tryz.func104, Tryz.ntmps104
  go_wp2_with fail
  refine (HC.out _).mono ?_
  rintro e w1 ⟨rfl, rfl⟩
  rw [H.out]
  go_wp2_with fail
  (with_reducible refine (A0 _).mono ?_)
  rintro e w2 ⟨C, T, rfl, hC, hT, hC1, hT1, hg2⟩
  have HGB := Lib.hid (show GBox w2 C T key from ⟨hC, hT⟩)
  clear hC hT A0
  go_wp2_with fail
  obtain ⟨x, hx⟩ : ∃ x, x = w2.alloc (.cells #[.pointer (some ⟨C, 0, none⟩), .string ⟨nonce.toArray⟩] 237) := ⟨_, rfl⟩
  obtain ⟨B, hB⟩ : ∃ B, B = w2.heap.size := ⟨_, rfl⟩
  have hgx : w2.grownBy x none := by rw [hx]; exact grow_alloc (grow_refl w2 none) _
  have k0 : x.cell? ⟨B, 0, none⟩ = some (.pointer (some ⟨C, 0, none⟩)) := by rw [hx, hB, obj_cell (obj_new w2 _)]; rfl
  have k2 : x.cell? ⟨B, 1, none⟩ = some (.string ⟨nonce.toArray⟩) := by rw [hx, hB, obj_cell (obj_new w2 _)]; rfl
  rw [← hx, ← hB]
  have HGX := Lib.hid hgx
  clear hx hB hgx
  go_quiet (fail)
  go_wp2_with fail
  (with_reducible refine (A2 _ C T (HGB.out.kept (grow_drewN HGX.out _))).mono ?_)
  rintro e w3 ⟨rfl, hg3⟩
  have m0 := hg3.cell (a := ⟨B, 0, none⟩) k0 nofun
  have m1 := hg3.cell (a := ⟨B, 1, none⟩) k2 nofun
  have HG3 := Lib.hid (grow_trans (grow_drewN HGX.out _) hg3)
  clear k0 k2 hg3 A2
  have HF := Lib.hid (grow_trans hg2 HG3.out)
  clear hg2 HG3 HGB
  go_wp2_with fail
  go_ret2
  exact ⟨rfl, HF.out⟩

theorem code_gopen_any (key nonce more text : List UInt8) (hm : more.length ≤ 2000) (ht : text.length ≤ 2016) :
    ∃ (s : List UInt8) (n : Nat), s.length ≤ 2016 ∧ n ≤ 15 ∧ ∀ w : World, Calls Tryz.prog 104 #[S key, S nonce, S more, S text] w (Grown (.tuple #[S s, .int .i64 (n : Int)]) w) := by
  by_cases h : key.length = 32 ∧ nonce.length = 12
  · by_cases h16 : text.length < 16
    · exact ⟨[], 4, by simp, by omega, fun w => (code_gopen_short w key nonce more text h.1 h.2 hm h16).mono fun e w' ⟨h1, h2⟩ => ⟨h1, h2 ▸ grow_refl _ _⟩⟩
    · have e : text = text.take (text.length - 16) ++ text.drop (text.length - 16) := (List.take_append_drop _ _).symm
      have l1 : (text.take (text.length - 16)).length = text.length - 16 := by rw [List.length_take]; omega
      have l2 : (text.drop (text.length - 16)).length = 16 := by rw [List.length_drop]; omega
      by_cases hq : text.drop (text.length - 16) = gtagL key nonce more (text.take (text.length - 16))
      · refine ⟨gcxL key nonce (text.take (text.length - 16)), 0, ?_, by omega, fun w => ?_⟩
        rotate_left
        · have := code_gopen w key nonce more (text.take (text.length - 16)) h.1 h.2 hm (by omega)
          rw [← hq, ← e] at this
          exact this
        · rw [gcxL_length _ _ _ h.1 h.2]; omega
      · exact ⟨[], 6, by simp, by omega, fun w => by
          have := code_gopen_bad w key nonce more _ _ h.1 h.2 hm (by omega) l2 hq
          rwa [← e] at this⟩
  · have hc : gcheckE key nonce more text 2016 = 1 := if_neg h
    exact ⟨[], 1, by simp, by omega, fun w => (code_gopen_err w key nonce more text 1 hc rfl).mono fun e w' ⟨h1, h2⟩ => ⟨h1, h2 ▸ grow_refl _ _⟩⟩

end Go.Proofs.YtmomfbkpniblgaaGreatDoor
