/- The walk of Elemtimes. -/
import Derived.Test.YtkikabihfldfkaaElemAddsLaw
namespace Go.Proofs.Ytkikabihfldfkaa
open Go.RowKit
set_option linter.unusedVariables false

set_option maxRecDepth 20000 in
set_option maxHeartbeats 4000000 in
theorem walk_ElemTimes (s0 s1 s2 : ByteArray) (w0 : s0.size ≤ maxLen) (w1 : s1.size ≤ maxLen) (w2 : s2.size ≤ maxLen) (w : World) :
    Calls Try.prog 3 #[.string s0, .string s1, .string s2] w fun e w' => e = .returned (.bool true) ∧ Below w.heap.size w w' := by
  obtain ⟨a0, rfl, ha⟩ := listB s0
  obtain ⟨b0, rfl, hb⟩ := listB s1
  obtain ⟨c0, rfl, hc⟩ := listB s2
  unfold maxLen at w0 w1 w2
  rw [← ha] at w0
  rw [← hb] at w1
  rw [← hc] at w2
  clear ha hb hc
  have E0 := lift w (fun W => code_kElems W a0 (by omega))
  have E1 : ∀ W : World, Hid (w.grownBy W none) → Calls Try.prog 13 #[S b0, .int .i64 32] W (GrownH w (S (sizedL b0 32))) := lift w (fun W => code_sized W b0 32 (by omega) (by omega))
  have E2 : ∀ W : World, Hid (w.grownBy W none) → Calls Try.prog 13 #[S c0, .int .i64 32] W (GrownH w (S (sizedL c0 32))) := lift w (fun W => code_sized W c0 32 (by omega) (by omega))
  have la := sizedL_length a0 32
  have lb := sizedL_length b0 32
  have lc := sizedL_length c0 32
  generalize sizedL a0 32 = a at *
  generalize sizedL b0 32 = b at *
  generalize sizedL c0 32 = c at *
  obtain ⟨p, hp⟩ : ∃ p, p = mulM a b := ⟨_, rfl⟩
  have lp : p.length = 32 := by rw [hp]; exact mulM_length _ _
  obtain ⟨r, hr⟩ : ∃ r, r = mulM b c := ⟨_, rfl⟩
  have lr : r.length = 32 := by rw [hr]; exact mulM_length _ _
  obtain ⟨s, hs⟩ : ∃ s, s = addM b c := ⟨_, rfl⟩
  have ls : s.length = 32 := by rw [hs]; exact addM_length _ _
  obtain ⟨t, ht⟩ : ∃ t, t = mulM a c := ⟨_, rfl⟩
  have lt : t.length = 32 := by rw [ht]; exact mulM_length _ _
  obtain ⟨o, ho⟩ : ∃ o, o = sizedL [1] 32 := ⟨_, rfl⟩
  have lo : o.length = 32 := by rw [ho]; exact sizedL_length _ _
  have C0 := lift w (fun W => code_kMul W a b (by assumption) (by assumption))
  have C1 := lift w (fun W => code_kMul W b a (by assumption) (by assumption))
  have C2 := lift w (fun W => code_kMul W p c (by assumption) (by assumption))
  have C3 := lift w (fun W => code_kMul W b c (by assumption) (by assumption))
  have C4 := lift w (fun W => code_kMul W a r (by assumption) (by assumption))
  have C5 := lift w (fun W => code_kAdd W b c (by assumption) (by assumption))
  have C6 := lift w (fun W => code_kMul W a s (by assumption) (by assumption))
  have C7 := lift w (fun W => code_kMul W a c (by assumption) (by assumption))
  have C8 := lift w (fun W => code_kAdd W p t (by assumption) (by assumption))
  have C9 := lift w (fun W => code_kMul W a o (by assumption) (by assumption))
  have C10 := lift w (fun W => code_kLeast W a (by assumption))
  have C11 := lift w (fun W => code_sized W [1] 32 (by simp) (by omega))
  have e1 : mulM b a = p := by rw [hp, mul_comm']
  have e2 : mulM a r = mulM p c := by rw [hp, hr, mul_assoc']
  have e3 : mulM a s = addM p t := by rw [hp, hs, ht, mul_add]
  have e4 : mulM a o = lowM a := by rw [ho, mul_one']
  rw [← hp] at C0
  rw [e1] at C1
  rw [← hr] at C3
  rw [e2] at C4
  rw [← hs] at C5
  rw [e3] at C6
  rw [← ht] at C7
  rw [e4] at C9
  rw [← ho] at C11
  have C11' : ∀ W : World, Hid (w.grownBy W none) → Calls Try.prog 13 #[S [1], .int .i64 32] W (GrownH w (S o)) := C11
  clear C11
  have C11 := C11'
  clear C11' hp hr hs ht ho e1 e2 e3 e4 la lb lc lp lr ls lt lo w0 w1 w2
  generalize mulM p c = q at *
  generalize addM p t = u at *
  generalize lowM a = lw at *
  unfold GrownH S at *
  have hg : Hid (w.grownBy w none) := Lib.hid (grow_refl _ _)
  go_enter Try.func3, Try.ntmps3
  go_wp2_with (first
    | (go_at_call 12; (with_reducible refine (E0 _ hg).mono ?_); clear hg; rintro e x ⟨rfl, hg⟩)
    | (go_at_call 13; (with_reducible refine (E1 _ hg).mono ?_); clear hg; rintro e x ⟨rfl, hg⟩)
    | (go_at_call 13; (with_reducible refine (E2 _ hg).mono ?_); clear hg; rintro e x ⟨rfl, hg⟩)
    | (go_at_call 14; (with_reducible refine (C0 _ hg).mono ?_); clear hg; rintro e x ⟨rfl, hg⟩)
    | (go_at_call 14; (with_reducible refine (C1 _ hg).mono ?_); clear hg; rintro e x ⟨rfl, hg⟩)
    | (go_at_call 14; (with_reducible refine (C2 _ hg).mono ?_); clear hg; rintro e x ⟨rfl, hg⟩)
    | (go_at_call 14; (with_reducible refine (C3 _ hg).mono ?_); clear hg; rintro e x ⟨rfl, hg⟩)
    | (go_at_call 14; (with_reducible refine (C4 _ hg).mono ?_); clear hg; rintro e x ⟨rfl, hg⟩)
    | (go_at_call 15; (with_reducible refine (C5 _ hg).mono ?_); clear hg; rintro e x ⟨rfl, hg⟩)
    | (go_at_call 14; (with_reducible refine (C6 _ hg).mono ?_); clear hg; rintro e x ⟨rfl, hg⟩)
    | (go_at_call 14; (with_reducible refine (C7 _ hg).mono ?_); clear hg; rintro e x ⟨rfl, hg⟩)
    | (go_at_call 15; (with_reducible refine (C8 _ hg).mono ?_); clear hg; rintro e x ⟨rfl, hg⟩)
    | (go_at_call 14; (with_reducible refine (C9 _ hg).mono ?_); clear hg; rintro e x ⟨rfl, hg⟩)
    | (go_at_call 16; (with_reducible refine (C10 _ hg).mono ?_); clear hg; rintro e x ⟨rfl, hg⟩)
    | (go_at_call 13; (with_reducible refine (C11 _ hg).mono ?_); clear hg; rintro e x ⟨rfl, hg⟩)
    | fail)
  go_ret
  exact ⟨rfl, grow_below hg.out _ (Nat.le_refl _) (by simp)⟩


end Go.Proofs.Ytkikabihfldfkaa
