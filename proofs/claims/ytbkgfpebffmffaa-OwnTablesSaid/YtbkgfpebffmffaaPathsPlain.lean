/- Prefixes, and whose they are: plain. No function of the program. -/
namespace Go.Proofs.Ytbkgfpebffmffaa
set_option linter.unusedVariables false

/-- A prefix: its bits, the highest first. -/
abbrev Pf := List Bool
def bitN (b : Bool) : Nat := if b then 1 else 0
def valP : Pf → Nat
  | p => p.foldl (fun n b => 2 * n + bitN b) 0
theorem valP_snoc (p : Pf) (b : Bool) : valP (p ++ [b]) = 2 * valP p + bitN b := by
  unfold valP
  rw [List.foldl_append]
  rfl
theorem bitN_le (b : Bool) : bitN b ≤ 1 := by cases b <;> decide
theorem snoc_ind {P : Pf → Prop} (h0 : P []) (h1 : ∀ p b, P p → P (p ++ [b])) : ∀ p, P p := by
  intro p
  have : ∀ r : Pf, P r.reverse := by
    intro r
    induction r with
    | nil => exact h0
    | cons b r ih => rw [List.reverse_cons]; exact h1 _ _ ih
  have h := this p.reverse
  rwa [List.reverse_reverse] at h
theorem valP_lt (p : Pf) : valP p < 2 ^ p.length := by
  induction p using snoc_ind with
  | h0 => decide
  | h1 p b ih =>
    rw [valP_snoc, List.length_append]
    have := bitN_le b
    show _ < 2 ^ (p.length + 1)
    rw [Nat.pow_succ]
    omega
theorem bitN_inj {a b : Bool} (h : bitN a = bitN b) : a = b := by
  cases a <;> cases b <;> first | rfl | (exact absurd h (by decide))
theorem valP_inj : ∀ (p q : Pf), p.length = q.length → valP p = valP q → p = q := by
  intro p
  induction p using snoc_ind with
  | h0 =>
    intro q hl _
    exact (List.eq_nil_of_length_eq_zero hl.symm).symm
  | h1 p b ih =>
    intro q hl hv
    rcases List.eq_nil_or_concat q with rfl | ⟨q', c, rfl⟩
    · simp at hl
    · rw [List.concat_eq_append] at hl hv ⊢
      rw [valP_snoc, valP_snoc] at hv
      rw [List.length_append, List.length_append] at hl
      have h1 := bitN_le b
      have h2 := bitN_le c
      have e1 : valP p = valP q' := by omega
      have e2 : bitN b = bitN c := by omega
      rw [ih q' (by simpa using hl) e1, bitN_inj e2]

/-- The address of a prefix. -/
def addrP (p : Pf) : Nat := valP p * 2 ^ (32 - p.length)
/-- The first bits of an address. -/
def bitsA (a n : Nat) : Pf := (List.range n).map fun i => a / 2 ^ (31 - i) % 2 == 1
theorem bitsA_length (a n : Nat) : (bitsA a n).length = n := by simp [bitsA]
theorem bitsA_succ (a n : Nat) : bitsA a (n + 1) = bitsA a n ++ [a / 2 ^ (31 - n) % 2 == 1] := by
  unfold bitsA
  rw [List.range_succ, List.map_append]
  rfl
theorem bitN_beq (n : Nat) : bitN (n % 2 == 1) = n % 2 := by
  have : n % 2 = 0 ∨ n % 2 = 1 := by omega
  rcases this with h | h <;> rw [h] <;> rfl
theorem valP_bits (a : Nat) (ha : a < 2 ^ 32) : ∀ n, n ≤ 32 → valP (bitsA a n) = a / 2 ^ (32 - n)
  | 0, _ => by
    rw [Nat.sub_zero, Nat.div_eq_of_lt ha]
    rfl
  | n + 1, h => by
    rw [bitsA_succ, valP_snoc, valP_bits a ha n (by omega), bitN_beq]
    have e : 32 - n = (31 - n) + 1 := by omega
    have e2 : 32 - (n + 1) = 31 - n := by omega
    rw [e, e2, Nat.pow_succ, ← Nat.div_div_eq_div_mul]
    generalize a / 2 ^ (31 - n) = q
    omega
theorem bitsA_addr (p : Pf) (hp : p.length ≤ 32) : bitsA (addrP p) p.length = p := by
  apply valP_inj _ _ (bitsA_length _ _)
  have hlt := valP_lt p
  have hpos : 0 < 2 ^ (32 - p.length) := Nat.pow_pos (by omega)
  have ha : addrP p < 2 ^ 32 := by
    unfold addrP
    have e : (2 : Nat) ^ 32 = 2 ^ p.length * 2 ^ (32 - p.length) := by rw [← Nat.pow_add]; congr 1; omega
    rw [e]
    exact Nat.mul_lt_mul_of_pos_right hlt hpos
  rw [valP_bits _ ha _ hp]
  unfold addrP
  exact Nat.mul_div_cancel _ hpos
theorem addrP_lt (p : Pf) (hp : p.length ≤ 32) : addrP p < 2 ^ 32 := by
  have hlt := valP_lt p
  have hpos : 0 < 2 ^ (32 - p.length) := Nat.pow_pos (by omega)
  unfold addrP
  have e : (2 : Nat) ^ 32 = 2 ^ p.length * 2 ^ (32 - p.length) := by rw [← Nat.pow_add]; congr 1; omega
  rw [e]
  exact Nat.mul_lt_mul_of_pos_right hlt hpos
/-- An address whose other bits are nought is that of its first bits. -/
theorem addr_bits (a n : Nat) (ha : a < 2 ^ 32) (hn : n ≤ 32) (h : a * 2 ^ n % 2 ^ 32 = 0) : addrP (bitsA a n) = a := by
  unfold addrP
  rw [bitsA_length, valP_bits a ha n hn]
  have e : (2 : Nat) ^ 32 = 2 ^ (32 - n) * 2 ^ n := by rw [← Nat.pow_add]; congr 1; omega
  rw [e, Nat.mul_mod_mul_right] at h
  have hpos : 0 < 2 ^ n := Nat.pow_pos (by omega)
  have h2 : a % 2 ^ (32 - n) = 0 := by
    rcases Nat.mul_eq_zero.1 h with h | h
    · exact h
    · omega
  exact Nat.div_mul_cancel (Nat.dvd_of_mod_eq_zero h2)
theorem addr_inj (p q : Pf) (hp : p.length ≤ 32) (hl : p.length = q.length) (h : addrP p = addrP q) : p = q := by
  rw [← bitsA_addr p hp, h, hl]
  exact bitsA_addr q (by omega)
/-- A prefix holds an address. -/
theorem holds_iff (p : Pf) (a : Nat) (hp : p.length ≤ 32) (ha : a < 2 ^ 32) : addrP p / 2 ^ (32 - p.length) = a / 2 ^ (32 - p.length) ↔ p = bitsA a p.length := by
  rw [← valP_bits a ha p.length hp]
  have hpos : 0 < 2 ^ (32 - p.length) := Nat.pow_pos (by omega)
  have e : addrP p / 2 ^ (32 - p.length) = valP p := Nat.mul_div_cancel _ hpos
  rw [e]
  exact ⟨fun h => valP_inj _ _ (bitsA_length _ _).symm h, fun h => by conv => lhs; rw [h]⟩

/-- Whose prefixes are. -/
abbrev Own := Pf → Option Int
def hereP (O : Own) (p : Pf) : List (Pf × Int) := match O p with
  | some v => [(p, v)]
  | none => []
/-- All from one on, so many levels down, in their order. -/
def lstP (O : Own) : Nat → Pf → List (Pf × Int)
  | 0, _ => []
  | f + 1, p => hereP O p ++ (lstP O f (p ++ [false]) ++ lstP O f (p ++ [true]))
def allP (O : Own) : List (Pf × Int) := lstP O 33 []
theorem lstP_nil (O : Own) : ∀ (f : Nat) (p : Pf), (∀ q, O (p ++ q) = none) → lstP O f p = []
  | 0, _, _ => rfl
  | f + 1, p, h => by
    have h0 : O p = none := by have := h []; rwa [List.append_nil] at this
    rw [lstP, lstP_nil O f _ (fun q => by rw [List.append_assoc]; exact h _), lstP_nil O f _ (fun q => by rw [List.append_assoc]; exact h _)]
    unfold hereP
    rw [h0]
    rfl
theorem here_mem {O : Own} {p : Pf} {x : Pf × Int} : x ∈ hereP O p ↔ x.1 = p ∧ O p = some x.2 := by
  unfold hereP
  cases h : O p with
  | none => simp
  | some v =>
    obtain ⟨q, u⟩ := x
    simp only [List.mem_singleton, Prod.mk.injEq, Option.some.injEq]
    constructor
    · rintro ⟨rfl, rfl⟩; exact ⟨rfl, rfl⟩
    · rintro ⟨rfl, rfl⟩; exact ⟨rfl, rfl⟩
theorem lstP_mem (O : Own) : ∀ (f : Nat) (p : Pf) (x : Pf × Int), x ∈ lstP O f p ↔ ∃ r : Pf, x.1 = p ++ r ∧ r.length < f ∧ O x.1 = some x.2
  | 0, p, x => by simp [lstP]
  | f + 1, p, x => by
    rw [lstP, List.mem_append, List.mem_append, lstP_mem O f, lstP_mem O f, here_mem]
    constructor
    · rintro (⟨h1, h2⟩ | ⟨r, h1, h2, h3⟩ | ⟨r, h1, h2, h3⟩)
      · exact ⟨[], by rw [List.append_nil]; exact h1, by simp, by rw [h1]; exact h2⟩
      · exact ⟨false :: r, by rw [h1, List.append_assoc]; rfl, by simpa using h2, h3⟩
      · exact ⟨true :: r, by rw [h1, List.append_assoc]; rfl, by simpa using h2, h3⟩
    · rintro ⟨r, h1, h2, h3⟩
      cases r with
      | nil =>
        rw [List.append_nil] at h1
        exact Or.inl ⟨h1, by rw [← h1]; exact h3⟩
      | cons b r =>
        have h2' : r.length < f := by simpa using h2
        cases b
        · exact Or.inr (Or.inl ⟨r, by rw [h1, List.append_assoc]; rfl, h2', h3⟩)
        · exact Or.inr (Or.inr ⟨r, by rw [h1, List.append_assoc]; rfl, h2', h3⟩)
theorem allP_mem (O : Own) (x : Pf × Int) : x ∈ allP O ↔ x.1.length ≤ 32 ∧ O x.1 = some x.2 := by
  unfold allP
  rw [lstP_mem]
  constructor
  · rintro ⟨r, h1, h2, h3⟩
    rw [List.nil_append] at h1
    exact ⟨by rw [h1]; omega, h3⟩
  · rintro ⟨h1, h2⟩
    exact ⟨x.1, rfl, by omega, h2⟩

/-- All of one are dropped. -/
def dropO (O : Own) (peer : Int) : Own := fun p => if O p = some peer then none else O p
theorem here_drop (O : Own) (peer : Int) (p : Pf) : hereP (dropO O peer) p = (hereP O p).filter (fun x => x.2 != peer) := by
  unfold hereP dropO
  cases h : O p with
  | none => simp
  | some v =>
    by_cases e : v = peer
    · subst e; simp
    · have : (some v : Option Int) ≠ some peer := fun q => e (Option.some.inj q)
      rw [if_neg this]
      simp [e]
theorem lst_drop (O : Own) (peer : Int) : ∀ (f : Nat) (p : Pf), lstP (dropO O peer) f p = (lstP O f p).filter (fun x => x.2 != peer)
  | 0, _ => rfl
  | f + 1, p => by rw [lstP, lstP, List.filter_append, List.filter_append, here_drop, lst_drop O peer f, lst_drop O peer f]
theorem all_drop (O : Own) (peer : Int) : allP (dropO O peer) = (allP O).filter (fun x => x.2 != peer) := lst_drop O peer 33 []

/-- One is set. -/
def setO (O : Own) (p : Pf) (v : Int) : Own := fun q => if q = p then some v else O q
theorem setO_twice (O : Own) (p : Pf) (v u : Int) : setO (setO O p v) p u = setO O p u := by
  funext q
  unfold setO
  split <;> rfl
theorem here_set (O : Own) (p : Pf) (v u : Int) (h : O p = some u) (q : Pf) : hereP (setO O p v) q = (hereP O q).map (fun x => (x.1, if x.1 = p then v else x.2)) := by
  unfold hereP setO
  by_cases e : q = p
  · subst e
    rw [h]
    simp
  · simp only [if_neg e]
    cases O q <;> simp [e]
theorem lst_set (O : Own) (p : Pf) (v u : Int) (h : O p = some u) : ∀ (f : Nat) (q : Pf), lstP (setO O p v) f q = (lstP O f q).map (fun x => (x.1, if x.1 = p then v else x.2))
  | 0, _ => rfl
  | f + 1, q => by rw [lstP, lstP, List.map_append, List.map_append, here_set O p v u h, lst_set O p v u h f, lst_set O p v u h f]
theorem all_set (O : Own) (p : Pf) (v u : Int) (h : O p = some u) : allP (setO O p v) = (allP O).map (fun x => (x.1, if x.1 = p then v else x.2)) := lst_set O p v u h 33 []
theorem lst_same (O O' : Own) : ∀ (f : Nat) (q : Pf), (∀ r : Pf, r.length < f → O (q ++ r) = O' (q ++ r)) → lstP O f q = lstP O' f q
  | 0, _, _ => rfl
  | f + 1, q, h => by
    have h0 : O q = O' q := by have := h [] (by simp); rwa [List.append_nil] at this
    rw [lstP, lstP, lst_same O O' f (q ++ [false]) (fun r hr => by rw [List.append_assoc]; exact h _ (by simpa using hr)), lst_same O O' f (q ++ [true]) (fun r hr => by rw [List.append_assoc]; exact h _ (by simpa using hr))]
    unfold hereP
    rw [h0]
/-- A new one makes one more. -/
theorem lst_new (O : Own) (v : Int) : ∀ (f : Nat) (q r : Pf), r.length < f → O (q ++ r) = none → (lstP (setO O (q ++ r) v) f q).length = (lstP O f q).length + 1
  | 0, _, r, h, _ => by simp at h
  | f + 1, q, r, h, h0 => by
    rw [lstP, lstP, List.length_append, List.length_append, List.length_append, List.length_append]
    cases r with
    | nil =>
      rw [List.append_nil] at h0 ⊢
      have e1 : hereP (setO O q v) q = [(q, v)] := by unfold hereP setO; rw [if_pos rfl]
      have e2 : hereP O q = [] := by unfold hereP; rw [h0]
      have e3 : ∀ b, lstP (setO O q v) f (q ++ [b]) = lstP O f (q ++ [b]) := fun b => lst_same _ _ f _ fun r _ => by
        unfold setO
        rw [if_neg]
        intro e
        have := congrArg List.length e
        simp at this
      rw [e1, e2, e3, e3]
      simp
      omega
    | cons b r =>
      have hr : r.length < f := by simpa using h
      have e0 : q ++ b :: r = (q ++ [b]) ++ r := by rw [List.append_assoc]; rfl
      have eh : hereP (setO O (q ++ b :: r) v) q = hereP O q := by
        unfold hereP setO
        rw [if_neg]
        intro e
        have := congrArg List.length e
        simp at this
      rw [eh]
      have ih := lst_new O v f (q ++ [b]) r hr (by rw [← e0]; exact h0)
      have other : ∀ c, c ≠ b → lstP (setO O (q ++ b :: r) v) f (q ++ [c]) = lstP O f (q ++ [c]) := fun c hc => lst_same _ _ f _ fun s _ => by
        unfold setO
        rw [if_neg]
        intro e
        rw [List.append_assoc] at e
        have := List.append_cancel_left e
        simp at this
        exact hc this.1
      rw [← e0] at ih
      cases b
      · rw [ih, other true (by decide)]
        omega
      · rw [ih, other false (by decide)]
        omega
theorem all_new (O : Own) (p : Pf) (v : Int) (hp : p.length ≤ 32) (h : O p = none) : (allP (setO O p v)).length = (allP O).length + 1 := lst_new O v 33 [] p (by omega) h
theorem all_old (O : Own) (p : Pf) (v u : Int) (h : O p = some u) : (allP (setO O p v)).length = (allP O).length := by
  rw [all_set O p v u h, List.length_map]

/-- Whose an address is, by the first so many bits. -/
def findP (O : Own) (a : Nat) : Nat → Option Int
  | 0 => O []
  | n + 1 => match O (bitsA a (n + 1)) with
    | some v => some v
    | none => findP O a n
theorem find_some (O : Own) (a : Nat) : ∀ (n : Nat) (v : Int), findP O a n = some v → ∃ k, k ≤ n ∧ O (bitsA a k) = some v ∧ ∀ j, k < j → j ≤ n → O (bitsA a j) = none
  | 0, v, h => ⟨0, Nat.le_refl _, h, fun j h1 h2 => by omega⟩
  | n + 1, v, h => by
    rw [findP] at h
    cases e : O (bitsA a (n + 1)) with
    | some u =>
      rw [e] at h
      exact ⟨n + 1, Nat.le_refl _, by rw [e]; exact h, fun j h1 h2 => by omega⟩
    | none =>
      rw [e] at h
      obtain ⟨k, h1, h2, h3⟩ := find_some O a n v h
      refine ⟨k, by omega, h2, fun j h4 h5 => ?_⟩
      by_cases q : j = n + 1
      · subst q; exact e
      · exact h3 j h4 (by omega)
theorem find_none (O : Own) (a : Nat) : ∀ (n : Nat), findP O a n = none → ∀ j, j ≤ n → O (bitsA a j) = none
  | 0, h, j, hj => by
    obtain rfl : j = 0 := by omega
    exact h
  | n + 1, h, j, hj => by
    rw [findP] at h
    cases e : O (bitsA a (n + 1)) with
    | some u => rw [e] at h; cases h
    | none =>
      rw [e] at h
      by_cases q : j = n + 1
      · subst q; exact e
      · exact find_none O a n h j (by omega)
theorem find_more (O : Own) (a n : Nat) : ∀ m, n ≤ m → (∀ j, n < j → j ≤ m → O (bitsA a j) = none) → findP O a m = findP O a n
  | 0, h, _ => by
    obtain rfl : n = 0 := by omega
    rfl
  | m + 1, h, hn => by
    by_cases q : n = m + 1
    · subst q; rfl
    · rw [findP, hn (m + 1) (by omega) (Nat.le_refl _)]
      exact find_more O a n m (by omega) (fun j h1 h2 => hn j h1 (by omega))

/-- The order of prefixes: by address, then by bits. -/
def ltP (p q : Pf) : Prop := addrP p < addrP q ∨ (addrP p = addrP q ∧ p.length < q.length)
theorem valP_app (p : Pf) : ∀ r : Pf, valP (p ++ r) = valP p * 2 ^ r.length + valP r := by
  intro r
  induction r using snoc_ind with
  | h0 => rw [List.append_nil]; show valP p = valP p * 2 ^ 0 + 0; omega
  | h1 r b ih =>
    rw [← List.append_assoc, valP_snoc, ih, valP_snoc, List.length_append]
    show _ = valP p * 2 ^ (r.length + 1) + _
    rw [Nat.pow_succ, ← Nat.mul_assoc, Nat.mul_add]
    generalize valP p * 2 ^ r.length = x
    omega
theorem addr_in (p r : Pf) (h : (p ++ r).length ≤ 32) : addrP p ≤ addrP (p ++ r) ∧ addrP (p ++ r) < addrP p + 2 ^ (32 - p.length) := by
  have hv := valP_lt r
  rw [List.length_append] at h
  have e : (2 : Nat) ^ (32 - p.length) = 2 ^ r.length * 2 ^ (32 - (p.length + r.length)) := by rw [← Nat.pow_add]; congr 1; omega
  have hpos : 0 < 2 ^ (32 - (p.length + r.length)) := Nat.pow_pos (by omega)
  unfold addrP
  rw [valP_app, List.length_append, e, Nat.add_mul, Nat.mul_assoc]
  have h1 := Nat.mul_lt_mul_of_pos_right hv hpos
  generalize valP p * (2 ^ r.length * 2 ^ (32 - (p.length + r.length))) = x at *
  omega
theorem addr_half (p : Pf) (h : p.length < 32) : addrP (p ++ [true]) = addrP p + 2 ^ (31 - p.length) ∧ addrP (p ++ [false]) = addrP p := by
  unfold addrP
  rw [valP_snoc, valP_snoc, List.length_append, List.length_append]
  show (2 * valP p + 1) * 2 ^ (32 - (p.length + 1)) = _ ∧ (2 * valP p + 0) * 2 ^ (32 - (p.length + 1)) = _
  have e : 32 - p.length = (31 - p.length) + 1 := by omega
  have e2 : 32 - (p.length + 1) = 31 - p.length := by omega
  rw [e, e2, Nat.pow_succ, Nat.add_mul, Nat.add_mul]
  generalize 2 ^ (31 - p.length) = x
  have e3 : 2 * valP p * x = valP p * (x * 2) := by rw [Nat.mul_comm 2, Nat.mul_assoc, Nat.mul_comm 2 x]
  omega
theorem lst_sorted (O : Own) : ∀ (f : Nat) (p : Pf), p.length + f ≤ 33 → (lstP O f p).Pairwise (fun x y => ltP x.1 y.1)
  | 0, _, _ => List.Pairwise.nil
  | f + 1, p, h => by
    rw [lstP, List.pairwise_append, List.pairwise_append]
    have hl : ∀ b, (p ++ [b]).length + f ≤ 33 := fun b => by rw [List.length_append]; show p.length + 1 + f ≤ 33; omega
    refine ⟨?_, ⟨lst_sorted O f _ (hl _), lst_sorted O f _ (hl _), ?_⟩, ?_⟩
    · unfold hereP
      cases O p with
      | none => exact List.Pairwise.nil
      | some v => exact List.pairwise_singleton _ _
    · intro x hx y hy
      obtain ⟨r, e1, h1, _⟩ := (lstP_mem O f _ x).1 hx
      obtain ⟨s, e2, h2, _⟩ := (lstP_mem O f _ y).1 hy
      have hp : p.length < 32 := by omega
      have a1 := addr_in (p ++ [false]) r (by simp; omega)
      have a2 := addr_in (p ++ [true]) s (by simp; omega)
      obtain ⟨q1, q2⟩ := addr_half p hp
      rw [← e1, q2] at a1
      rw [← e2, q1] at a2
      left
      have e3 : 32 - (p ++ [false]).length = 31 - p.length := by rw [List.length_append]; show 32 - (p.length + 1) = _; omega
      rw [e3] at a1
      omega
    · intro x hx y hy
      obtain ⟨e, _⟩ := here_mem.1 hx
      have : ∃ b s, y.1 = (p ++ [b]) ++ s ∧ s.length < f := by
        rcases List.mem_append.1 hy with hy | hy
        · obtain ⟨s, e2, h2, _⟩ := (lstP_mem O f _ y).1 hy
          exact ⟨_, s, e2, h2⟩
        · obtain ⟨s, e2, h2, _⟩ := (lstP_mem O f _ y).1 hy
          exact ⟨_, s, e2, h2⟩
      obtain ⟨b, s, e2, h2⟩ := this
      rw [List.append_assoc] at e2
      have a := addr_in p ([b] ++ s) (by simp; omega)
      rw [← e2] at a
      unfold ltP
      rw [e]
      have hlen : p.length < y.1.length := by rw [e2]; simp
      omega
theorem all_sorted (O : Own) : (allP O).Pairwise (fun x y => ltP x.1 y.1) := lst_sorted O 33 [] (by simp)
end Go.Proofs.Ytbkgfpebffmffaa
