/- Numbers modulo 2^255 - 19 in limbs of 51 bits: plain. -/
import Derived.Test.YtmceahknglkhoaaDoorLittle
namespace Go.Proofs.YtmceahknglkhoaaDoor
set_option linter.unusedVariables false

def PP : Nat := 2 ^ 255 - 19
theorem PP_eq : PP = 57896044618658097711785492504343953926634992332820282019728792003956564819949 := by decide +kernel
theorem PP_pos : 0 < PP := by rw [PP_eq]; omega

/-- The number of limbs. -/
def lval : List Nat → Nat
  | [] => 0
  | a :: l => a + 2251799813685248 * lval l

/-- Carried once along: each limb, and what goes out. -/
def carF : List Nat → Nat → List Nat × Nat
  | [], c => ([], c)
  | a :: l, c => let r := carF l ((a + c) / 2251799813685248); ((a + c) % 2251799813685248 :: r.1, r.2)

theorem carF_length : ∀ (l : List Nat) (c : Nat), (carF l c).1.length = l.length
  | [], _ => rfl
  | a :: l, c => by simp only [carF, List.length_cons, carF_length l]

theorem carF_snoc (a : Nat) : ∀ (l : List Nat) (c : Nat), carF (l ++ [a]) c = ((carF l c).1 ++ [(a + (carF l c).2) % 2251799813685248], (a + (carF l c).2) / 2251799813685248)
  | [], c => rfl
  | b :: l, c => by simp only [List.cons_append, carF, carF_snoc a l]

theorem carF_val : ∀ (l : List Nat) (c : Nat), lval (carF l c).1 + 2251799813685248 ^ l.length * (carF l c).2 = lval l + c
  | [], c => by simp [carF, lval]
  | a :: l, c => by
    have ih := carF_val l ((a + c) / 2251799813685248)
    simp only [carF, lval, List.length_cons]
    have e : 2251799813685248 ^ (l.length + 1) * (carF l ((a + c) / 2251799813685248)).2 = 2251799813685248 * (2251799813685248 ^ l.length * (carF l ((a + c) / 2251799813685248)).2) := by
      rw [Nat.pow_succ, Nat.mul_comm (2251799813685248 ^ l.length), Nat.mul_assoc]
    rw [e]
    generalize 2251799813685248 ^ l.length * (carF l ((a + c) / 2251799813685248)).2 = x at *
    omega

theorem carF_small : ∀ (l : List Nat) (c : Nat), ∀ x ∈ (carF l c).1, x < 2251799813685248
  | [], _, x, h => by simp [carF] at h
  | a :: l, c, x, h => by
    simp only [carF, List.mem_cons] at h
    rcases h with rfl | h
    · exact Nat.mod_lt _ (by omega)
    · exact carF_small l _ x h

/-- What goes out of each step is small. -/
theorem carF_out (M : Nat) : ∀ (l : List Nat) (c : Nat), (∀ x ∈ l, x + M < 2251799813685248 * (M + 1)) → c ≤ M → (carF l c).2 ≤ M
  | [], c, _, hc => hc
  | a :: l, c, h, hc => by
    simp only [carF]
    refine carF_out M l _ (fun x hx => h x (by simp [hx])) ?_
    have := h a (by simp)
    have h2 : a + c < 2251799813685248 * (M + 1) := by omega
    have := Nat.div_lt_of_lt_mul h2
    omega

/-- Once round. -/
def car1 (l : List Nat) : List Nat := (carF l 0).1.set 0 ((carF l 0).1.getD 0 0 + 19 * (carF l 0).2)
def carL (l : List Nat) : List Nat := car1 (car1 l)

/-- Limbs as results have them. -/
def Ok5 (l : List Nat) : Prop := ∃ a t, l = a :: t ∧ t.length = 4 ∧ a ≤ 2251799813685266 ∧ ∀ x ∈ t, x < 2251799813685248

theorem Ok5.length {l : List Nat} (h : Ok5 l) : l.length = 5 := by
  obtain ⟨a, t, rfl, ht, _⟩ := h
  simp [ht]
theorem Ok5.le {l : List Nat} (h : Ok5 l) : ∀ x ∈ l, x ≤ 2251799813685266 := by
  obtain ⟨a, t, rfl, ht, ha, h⟩ := h
  intro x hx
  rcases List.mem_cons.1 hx with rfl | hx
  · exact ha
  · have := h x hx; omega

theorem lval_set0 (l : List Nat) (h : 0 < l.length) (x : Nat) : lval (l.set 0 (l.getD 0 0 + x)) = lval l + x := by
  match l, h with
  | a :: l, _ => simp only [List.set_cons_zero, lval, List.getD_cons_zero]; omega

theorem two255 : (2251799813685248 : Nat) ^ 5 = PP + 19 := by decide +kernel

theorem car1_length (l : List Nat) : (car1 l).length = l.length := by unfold car1; rw [List.length_set, carF_length]
theorem carL_length (l : List Nat) : (carL l).length = l.length := by unfold carL; rw [car1_length, car1_length]

theorem car1_val (l : List Nat) (h : l.length = 5) : lval (car1 l) % PP = lval l % PP := by
  have e := carF_val l 0
  rw [h, two255] at e
  simp only [Nat.add_zero] at e
  unfold car1
  rw [lval_set0 _ (by rw [carF_length]; omega)]
  rw [← e, Nat.add_mul]
  rw [show lval (carF l 0).1 + (PP * (carF l 0).2 + 19 * (carF l 0).2) = lval (carF l 0).1 + 19 * (carF l 0).2 + PP * (carF l 0).2 from by omega, Nat.add_mul_mod_self_left]

theorem carL_val (l : List Nat) (h : l.length = 5) : lval (carL l) % PP = lval l % PP := by
  unfold carL
  rw [car1_val _ (by rw [car1_length, h]), car1_val _ h]

theorem car1_cons (l : List Nat) (M : Nat) (hl : l.length = 5) (h : ∀ x ∈ l, x + M < 2251799813685248 * (M + 1)) : ∃ a t, car1 l = a :: t ∧ t.length = 4 ∧ a < 2251799813685248 + 19 * M ∧ ∀ x ∈ t, x < 2251799813685248 := by
  have hc := carF_out M l 0 h (by omega)
  have hs := carF_small l 0
  have hn := carF_length l 0
  unfold car1
  generalize carF l 0 = r at *
  obtain ⟨r1, r2⟩ := r
  simp only at hc hs hn ⊢
  rw [hl] at hn
  match r1, hn with
  | a :: t, hn =>
    refine ⟨_, _, rfl, by simp at hn; omega, ?_, fun x hx => hs x (by simp [hx])⟩
    have := hs a (by simp)
    simp only [List.getD_cons_zero]
    omega

theorem carL_ok (l : List Nat) (h : l.length = 5) (hb : ∀ x ∈ l, x ≤ 9223372036854775808) : Ok5 (carL l) := by
  obtain ⟨a, t, e, ht, ha, hs⟩ := car1_cons l 4096 h (fun x hx => by have := hb x hx; omega)
  obtain ⟨b, u, e2, hu, hb2, hs2⟩ := car1_cons (car1 l) 1 (by rw [car1_length, h]) (fun x hx => by
    rw [e] at hx
    rcases List.mem_cons.1 hx with rfl | hx
    · omega
    · have := hs x hx; omega)
  exact ⟨b, u, e2, hu, by omega, hs2⟩

/-- Whole: each limb in its bits. -/
def Full (l : List Nat) : Prop := l.length = 5 ∧ ∀ x ∈ l, x < 2251799813685248

theorem lval_lt : ∀ l : List Nat, (∀ x ∈ l, x < 2251799813685248) → lval l < 2251799813685248 ^ l.length
  | [], _ => by simp [lval]
  | a :: l, h => by
    have ih := lval_lt l (fun x hx => h x (by simp [hx]))
    have := h a (by simp)
    simp only [lval, List.length_cons, Nat.pow_succ]
    generalize 2251799813685248 ^ l.length = z at *
    omega

theorem carF_full : ∀ l : List Nat, (∀ x ∈ l, x < 2251799813685248) → carF l 0 = (l, 0)
  | [], _ => rfl
  | a :: l, h => by
    have := h a (by simp)
    simp only [carF, Nat.add_zero]
    rw [Nat.div_eq_of_lt this, Nat.mod_eq_of_lt this, carF_full l (fun x hx => h x (by simp [hx]))]

theorem car1_full {l : List Nat} (h : Full l) : car1 l = l := by
  unfold car1
  rw [carF_full l h.2]
  match l, h.1 with
  | a :: l, _ => rfl

theorem car1_ok {l : List Nat} (h : Ok5 l) : Full (car1 l) := by
  have hl := h.length
  have hc := carF_out 1 l 0 (fun x hx => by have := h.le x hx; omega) (by omega)
  have hs := carF_small l 0
  have hn := carF_length l 0
  have hv := carF_val l 0
  rw [hl, two255] at hv
  simp only [Nat.add_zero] at hv
  obtain ⟨a, t, rfl, ht, ha, hts⟩ := h
  have hlt := lval_lt t hts
  rw [ht] at hlt
  refine ⟨by rw [car1_length, hl], ?_⟩
  unfold car1
  generalize carF (a :: t) 0 = r at *
  obtain ⟨r1, r2⟩ := r
  simp only at hc hs hn hv ⊢
  rw [hl] at hn
  match r1, hn with
  | b :: u, hn =>
    intro x hx
    simp only [List.set_cons_zero, List.getD_cons_zero] at hx
    rcases List.mem_cons.1 hx with rfl | hx
    · have hb := hs b (by simp)
      rcases (show r2 = 0 ∨ r2 = 1 by omega) with e | e
      · subst e; omega
      · subst e
        simp only [lval] at hv
        rw [PP_eq] at hv
        simp only [Nat.reducePow] at hlt
        omega
    · exact hs x (by simp [hx])

theorem full_twice (l : List Nat) (h : l.length = 5) (hb : ∀ x ∈ l, x ≤ 9223372036854775808) : Full (carL (carL l)) := by
  have h1 := car1_ok (carL_ok l h hb)
  have : carL (carL l) = car1 (carL l) := car1_full h1
  rw [this]
  exact h1

theorem full_lt {l : List Nat} (h : Full l) : lval l < PP + 19 := by
  have := lval_lt l h.2
  rw [h.1, two255] at this
  exact this

/-- What the text is made of: the least number. -/
def leastL (l : List Nat) : List Nat := (carF (l.set 0 (l.getD 0 0 + 19 * (carF l 19).2)) 0).1

theorem leastL_ok {l : List Nat} (h : Full l) : Full (leastL l) ∧ lval (leastL l) = lval l % PP := by
  have hV := full_lt h
  have hl := h.1
  have h1 := carF_val l 19
  have s1 := lval_lt _ (carF_small l 19)
  rw [carF_length, hl, two255] at s1
  rw [hl, two255] at h1
  have hq : (carF l 19).2 ≤ 1 := by
    have hp := PP_pos
    rcases Nat.lt_or_ge (carF l 19).2 2 with q | q
    · omega
    · have := Nat.mul_le_mul_left (PP + 19) q
      rw [PP_eq] at *
      omega
  have hF : Full (leastL l) := by
    refine ⟨by unfold leastL; rw [carF_length, List.length_set, hl], ?_⟩
    unfold leastL
    exact carF_small _ _
  refine ⟨hF, ?_⟩
  have h2 := carF_val (l.set 0 (l.getD 0 0 + 19 * (carF l 19).2)) 0
  rw [List.length_set, hl, two255, lval_set0 l (by omega)] at h2
  have h3 := full_lt hF
  unfold leastL at h3 ⊢
  generalize (carF (l.set 0 (l.getD 0 0 + 19 * (carF l 19).2)) 0) = r at *
  obtain ⟨r1, r2⟩ := r
  simp only at *
  generalize lval (carF l 19).1 = A at *
  generalize (carF l 19).2 = q at *
  generalize lval r1 = R at *
  generalize lval l = V at *
  clear hF h hl
  have hr2 : r2 ≤ 1 := by
    rcases Nat.lt_or_ge r2 2 with z | z
    · omega
    · have := Nat.mul_le_mul_left (PP + 19) z
      rw [PP_eq] at *
      omega
  rw [PP_eq] at *
  rcases (show q = 0 ∨ q = 1 by omega) with rfl | rfl
  · rcases (show r2 = 0 ∨ r2 = 1 by omega) with rfl | rfl
    · omega
    · omega
  · rcases (show r2 = 0 ∨ r2 = 1 by omega) with rfl | rfl
    · omega
    · omega

end Go.Proofs.YtmceahknglkhoaaDoor
