/- The walks of ElemAdds, ElemTimes. -/
import Derived.Test.YtkikabihfldfkaaElemKeep
import Derived.Test.YtkikabihfldfkaaElemPlainLaws
import Derived.Test.YtkikabihfldfkaaKeepBytes
namespace Go.Proofs.Ytkikabihfldfkaa
open Go.RowKit
set_option linter.unusedVariables false

def GrownH (w : World) (v : Value) (e : Ending) (w' : World) : Prop := e = .returned v ∧ Hid (w.grownBy w' none)
theorem lift (w : World) {k : FuncId} {args : Array Value} {v : Value} (A : ∀ W : World, Calls Try.prog k args W (Grown v W)) (W : World) (h : Hid (w.grownBy W none)) : Calls Try.prog k args W (GrownH w v) :=
  (A W).mono fun e w' ⟨h1, h2⟩ => ⟨h1, Lib.hid (grow_trans h.out h2)⟩

set_option maxRecDepth 20000 in
set_option maxHeartbeats 4000000 in
theorem walk_ElemAdds (s0 s1 s2 : ByteArray) (w0 : s0.size ≤ maxLen) (w1 : s1.size ≤ maxLen) (w2 : s2.size ≤ maxLen) (w : World) :
    Calls Try.prog 7 #[.string s0, .string s1, .string s2] w fun e w' => e = .returned (.bool true) ∧ Below w.heap.size w w' := by
  obtain ⟨a0, rfl, ha⟩ := listB s0
  obtain ⟨b0, rfl, hb⟩ := listB s1
  obtain ⟨c0, rfl, hc⟩ := listB s2
  unfold maxLen at w0 w1 w2
  rw [← ha] at w0
  rw [← hb] at w1
  rw [← hc] at w2
  clear ha hb hc
  have E0 := lift w (fun W => code_kElems W a0 (by omega))
  have E1 : ∀ W : World, Hid (w.grownBy W none) → Calls Try.prog 13 #[S b0, .int .i64 32] W (GrownH w (S (sizedL b0 32))) := lift w (fun W => code_sized W b0 32 (by omega) (by omega))
  have E2 : ∀ W : World, Hid (w.grownBy W none) → Calls Try.prog 13 #[S c0, .int .i64 32] W (GrownH w (S (sizedL c0 32))) := lift w (fun W => code_sized W c0 32 (by omega) (by omega))
  have la := sizedL_length a0 32
  have lb := sizedL_length b0 32
  have lc := sizedL_length c0 32
  generalize sizedL a0 32 = a at *
  generalize sizedL b0 32 = b at *
  generalize sizedL c0 32 = c at *
  obtain ⟨p, hp⟩ : ∃ p, p = addM a b := ⟨_, rfl⟩
  have lp : p.length = 32 := by rw [hp]; exact addM_length _ _
  obtain ⟨r, hr⟩ : ∃ r, r = addM b c := ⟨_, rfl⟩
  have lr : r.length = 32 := by rw [hr]; exact addM_length _ _
  obtain ⟨d, hd⟩ : ∃ d, d = subM a b := ⟨_, rfl⟩
  have ld : d.length = 32 := by rw [hd]; exact subM_length _ _
  have C0 := lift w (fun W => code_kAdd W a b (by assumption) (by assumption))
  have C1 := lift w (fun W => code_kAdd W b a (by assumption) (by assumption))
  have C2 := lift w (fun W => code_kAdd W p c (by assumption) (by assumption))
  have C3 := lift w (fun W => code_kAdd W b c (by assumption) (by assumption))
  have C4 := lift w (fun W => code_kAdd W a r (by assumption) (by assumption))
  have C5 := lift w (fun W => code_kSub W p b (by assumption) (by assumption))
  have C6 := lift w (fun W => code_kLeast W a (by assumption))
  have C7 := lift w (fun W => code_kSub W a b (by assumption) (by assumption))
  have C8 := lift w (fun W => code_kAdd W d b (by assumption) (by assumption))
  have C9 := lift w (fun W => code_kSub W a a (by assumption) (by assumption))
  have C10 := lift w (fun W => code_zeros W 32 (by omega))
  have e1 : addM b a = p := by rw [hp, add_comm']
  have e2 : addM a r = addM p c := by rw [hp, hr, add_assoc']
  have e3 : subM p b = lowM a := by rw [hp, sub_add]
  have e4 : addM d b = lowM a := by rw [hd, add_sub]
  rw [← hp] at C0
  rw [e1] at C1
  rw [← hr] at C3
  rw [e2] at C4
  rw [e3] at C5
  rw [← hd] at C7
  rw [e4] at C8
  rw [sub_self] at C9
  have C10' : ∀ W : World, Hid (w.grownBy W none) → Calls Try.prog 18 #[.int .i64 32] W (GrownH w (S (zerosL 32))) := C10
  clear C10
  have C10 := C10'
  clear C10' hp hr hd e1 e2 e3 e4 la lb lc lp lr ld w0 w1 w2
  generalize addM p c = q at *
  generalize lowM a = lo at *
  generalize zerosL 32 = zz at *
  unfold GrownH S at *
  have hg : Hid (w.grownBy w none) := Lib.hid (grow_refl _ _)
  go_enter Try.func7, Try.ntmps7
  go_wp2_with (first
    | (go_at_call 12; (with_reducible refine (E0 _ hg).mono ?_); clear hg; rintro e x ⟨rfl, hg⟩)
    | (go_at_call 13; (with_reducible refine (E1 _ hg).mono ?_); clear hg; rintro e x ⟨rfl, hg⟩)
    | (go_at_call 13; (with_reducible refine (E2 _ hg).mono ?_); clear hg; rintro e x ⟨rfl, hg⟩)
    | (go_at_call 15; (with_reducible refine (C0 _ hg).mono ?_); clear hg; rintro e x ⟨rfl, hg⟩)
    | (go_at_call 15; (with_reducible refine (C1 _ hg).mono ?_); clear hg; rintro e x ⟨rfl, hg⟩)
    | (go_at_call 15; (with_reducible refine (C2 _ hg).mono ?_); clear hg; rintro e x ⟨rfl, hg⟩)
    | (go_at_call 15; (with_reducible refine (C3 _ hg).mono ?_); clear hg; rintro e x ⟨rfl, hg⟩)
    | (go_at_call 15; (with_reducible refine (C4 _ hg).mono ?_); clear hg; rintro e x ⟨rfl, hg⟩)
    | (go_at_call 20; (with_reducible refine (C5 _ hg).mono ?_); clear hg; rintro e x ⟨rfl, hg⟩)
    | (go_at_call 16; (with_reducible refine (C6 _ hg).mono ?_); clear hg; rintro e x ⟨rfl, hg⟩)
    | (go_at_call 20; (with_reducible refine (C7 _ hg).mono ?_); clear hg; rintro e x ⟨rfl, hg⟩)
    | (go_at_call 15; (with_reducible refine (C8 _ hg).mono ?_); clear hg; rintro e x ⟨rfl, hg⟩)
    | (go_at_call 20; (with_reducible refine (C9 _ hg).mono ?_); clear hg; rintro e x ⟨rfl, hg⟩)
    | (go_at_call 18; (with_reducible refine (C10 _ hg).mono ?_); clear hg; rintro e x ⟨rfl, hg⟩)
    | fail)
  go_ret
  exact ⟨rfl, grow_below hg.out _ (Nat.le_refl _) (by simp)⟩


end Go.Proofs.Ytkikabihfldfkaa
