/- A region that draws its order: numbers are read, made, and laid into new blocks. -/
import Derived.Test.YtmceahknglkhoaaDoorAnyInv
import Derived.Test.YtmceahknglkhoaaDoorElem
namespace Go.Proofs.YtmceahknglkhoaaDoor
open Go.RowKit
set_option linter.unusedVariables false

/-- A block that holds a number that leaves v. -/
def NV (w : World) (B v : Nat) : Prop := ∃ l, NB w B l ∧ Ok5 l ∧ lval l % PP = v % PP
/-- A value that is such a number. -/
def Val (v : Nat) (x : Value) : Prop := ∃ l, x = N5 l ∧ Ok5 l ∧ lval l % PP = v % PP
theorem NV.kept {w w' : World} {B v : Nat} {r : Option Nat} (h : NV w B v) (g : w.grownBy w' r) (hr : some B ≠ r) : NV w' B v := by
  obtain ⟨l, h1, h2, h3⟩ := h
  exact ⟨l, Blk.kept h1 g hr, h2, h3⟩
theorem NV.keptN {w w' : World} {B v : Nat} (h : NV w B v) (g : w.grownBy w' none) : NV w' B v := h.kept g (by simp)
theorem NV.lt {w : World} {B v : Nat} (h : NV w B v) : B < w.heap.size := by
  obtain ⟨l, h1, _⟩ := h
  exact Blk.lt h1

/-- What an operation does: a number into a slot; a new block's pointer into a slot; a number into the new block of operation m, slot p; a number v into the old block B that slot p points at and that held u. -/
inductive Kd where
  | val (d v : Nat)
  | alc (d : Nat)
  | sto (m p v : Nat)
  | old (p B u v : Nat)

def Kd.dst : Kd → Option Nat
  | .val d _ => some d
  | .alc d => some d
  | .sto _ _ _ => none
  | .old _ _ _ _ => none

def ptrTo (k : Nat) : Value := .pointer (some ⟨k, 0, none⟩)

/-- Of the blocks that were there just those of D are written. -/
structure KeptBut (D : List Nat) (w w' : World) : Prop where
  size : w.heap.size ≤ w'.heap.size
  block : ∀ b, b < w.heap.size → b ∉ D → w'.heap[b]? = w.heap[b]?
theorem KeptBut.grow {D : List Nat} {w0 w w' : World} {r : Option Nat} (h : KeptBut D w0 w) (g : w.grownBy w' r) (hr : ∀ k, r = some k → w0.heap.size ≤ k ∨ k ∈ D) : KeptBut D w0 w' :=
  ⟨Nat.le_trans h.size g.size, fun b hb hD => by
    rw [g.block b (Nat.lt_of_lt_of_le hb h.size) (by intro e; rcases hr b e.symm with h | h; omega; exact hD h), h.block b hb hD]⟩
theorem NV.keptBut {D : List Nat} {w w' : World} {B v : Nat} (h : NV w B v) (k : KeptBut D w w') (hB : B ∉ D) : NV w' B v := by
  have hl := h.lt
  obtain ⟨l, h1, h2, h3⟩ := h
  exact ⟨l, by unfold NB Blk at h1 ⊢; rw [k.block B hl hB]; exact h1, h2, h3⟩

structure NInv (wb w0 : World) (a0 : Act) (W D : List Nat) (ops : Array Oper) (ks : List Kd) (L : Nat → Bool) (a : Act) (w : World) : Prop where
  base : wb.grownBy w none
  kept : KeptBut D w0 w
  size : a.tmps.size = a0.tmps.size
  defs : a.defers = a0.defers
  same : ∀ s, s ∉ W → a.tmps[s]? = a0.tmps[s]?
  closed : ∀ (i : Nat) (o : Oper), ops[i]? = some o → L i = true → ∀ e ∈ o.after, Region.binds .any e = true → L e.on = true
  val : ∀ i d v, ks[i]? = some (.val d v) → L i = true → Val v (a.tmps.getD d undef)
  alc : ∀ i d, ks[i]? = some (.alc d) → L i = true → ∃ k u, a.tmps.getD d undef = ptrTo k ∧ w0.heap.size ≤ k ∧ NV w k u
  sto : ∀ i m p v, ks[i]? = some (.sto m p v) → L i = true → L m = true ∧ ks[m]? = some (.alc p) ∧ ∃ k, a.tmps.getD p undef = ptrTo k ∧ w0.heap.size ≤ k ∧ NV w k v
  old : ∀ i p B u v, ks[i]? = some (.old p B u v) → NV w B (if L i = true then v else u)
  apart : ∀ i j d d', ks[i]? = some (.alc d) → ks[j]? = some (.alc d') → i ≠ j → L i = true → L j = true → a.tmps.getD d undef ≠ a.tmps.getD d' undef

/-- The old blocks that are written. -/
structure Olds (wb w0 : World) (a0 : Act) (W D : List Nat) (ks : List Kd) : Prop where
  base : wb.heap.size ≤ w0.heap.size
  lies : ∀ (i p B u v : Nat), ks[i]? = some (.old p B u v) → B ∈ D ∧ B < w0.heap.size ∧ wb.heap.size ≤ B ∧ p ∉ W ∧ a0.tmps.getD p undef = ptrTo B
  differ : ∀ (i j p B u v p' B' u' v' : Nat), ks[i]? = some (.old p B u v) → ks[j]? = some (.old p' B' u' v') → i ≠ j → B ≠ B'

/-- The kinds' slots are apart, each within W and the frame; each new block is stored into once. -/
def okKinds (W : List Nat) (n : Nat) (ks : List Kd) : Bool :=
  (List.range ks.length).all fun i => (List.range ks.length).all fun j =>
    match ks[i]?, ks[j]? with
    | some x, some y =>
      (match x.dst with
       | some d => W.contains d && decide (d < n) && (i == j || y.dst != some d)
       | none => true) &&
      (match x, y with
       | .sto m _ _, .sto m' _ _ => i == j || m != m'
       | .sto m p _, _ => (match ks[m]? with | some (.alc p') => p == p' | _ => false)
       | _, _ => true)
    | _, _ => true

theorem okKinds_at {W : List Nat} {n : Nat} {ks : List Kd} (h : okKinds W n ks = true) {i j : Nat} {x y : Kd} (hi : ks[i]? = some x) (hj : ks[j]? = some y) :
    (∀ d, x.dst = some d → d ∈ W ∧ d < n ∧ (i ≠ j → y.dst ≠ some d)) ∧ (∀ m p v m' p' v', x = .sto m p v → y = .sto m' p' v' → i ≠ j → m ≠ m') := by
  unfold okKinds at h
  have h1 := List.all_eq_true.1 (List.all_eq_true.1 h i (List.mem_range.2 (List.getElem?_eq_some_iff.1 hi).1)) j (List.mem_range.2 (List.getElem?_eq_some_iff.1 hj).1)
  rw [hi, hj] at h1
  simp only [Bool.and_eq_true] at h1
  refine ⟨fun d hd => ?_, fun m p v m' p' v' hx hy hne => ?_⟩
  · have h2 := h1.1
    rw [hd] at h2
    simp only [Bool.and_eq_true, decide_eq_true_eq, Bool.or_eq_true, beq_iff_eq, bne_iff_ne, List.contains_iff_mem] at h2
    exact ⟨h2.1.1, h2.1.2, fun hne => h2.2.resolve_left hne⟩
  · have h2 := h1.2
    subst hx hy
    simp only [Bool.or_eq_true, beq_iff_eq, bne_iff_ne] at h2
    exact h2.resolve_left hne

/-- Does an operation wait for another one? -/
def waits (o : Oper) (n : Nat) : Bool := o.after.any fun e => Region.binds .any e && e.on == n
theorem waits_spec {o : Oper} {n : Nat} {L : Nat → Bool} (h : waits o n = true) (hd : ∀ e ∈ o.after, Region.binds .any e = true → L e.on = true) : L n = true := by
  unfold waits at h
  obtain ⟨e, he, h2⟩ := Array.any_eq_true'.1 h
  simp only [Bool.and_eq_true, beq_iff_eq] at h2
  have := hd e he h2.1
  rwa [h2.2] at this

/-- What the operations are, kind by kind. -/
def Fits (P : Program) (T : TypeId) (ops : Array Oper) (Q : Exit → Act → World → Prop) (wb w0 : World) (a0 : Act) (W D : List Nat) (ks : List Kd) (i : Nat) (o : Oper) : Kd → Prop
  | .val d v => ∀ (L : Nat → Bool) (a : Act) (w : World) (K : Act → World → Prop), NInv wb w0 a0 W D ops ks L a w → L i = false → (∀ e ∈ o.after, Region.binds .any e = true → L e.on = true) →
      (∀ x w', Val v x → w.grownBy w' none → K (a.put (some d) x) w') → o.wp P a w K Q
  | .alc d => o.op = .alloc T ∧ o.dst = some d
  | .sto m p v => ∃ q n, o.op = .store T (.tmp p) (.tmp q) ∧ o.dst = none ∧ ks[n]? = some (.val q v) ∧ ks[m]? = some (.alc p) ∧ waits o n = true ∧ waits o m = true
  | .old p B u v => ∃ q n, o.op = .store T (.tmp p) (.tmp q) ∧ o.dst = none ∧ ks[n]? = some (.val q v) ∧ waits o n = true

theorem getD_put_same (a : Act) (d : Nat) (x : Value) (h : d < a.tmps.size) : (a.put (some d) x).tmps.getD d undef = x := by simp [Act.put, h]
theorem getD_put_ne (a : Act) (d s : Nat) (x : Value) (h : d ≠ s) : (a.put (some d) x).tmps.getD s undef = a.tmps.getD s undef := by
  simp [Act.put, Array.getElem?_setIfInBounds_ne h]
theorem get?_put_ne (a : Act) (d s : Nat) (x : Value) (h : d ≠ s) : (a.put (some d) x).tmps[s]? = a.tmps[s]? := by
  simp [Act.put, Array.getElem?_setIfInBounds_ne h]

section
variable {wb w0 : World} {a0 : Act} {W D : List Nat} {ops : Array Oper} {ks : List Kd} {L : Nat → Bool} {a : Act} {w : World}

theorem setL {i j : Nat} (h : (j == i || L j) = true) : j = i ∨ (j ≠ i ∧ L j = true) := by
  by_cases e : j = i
  · exact Or.inl e
  · right
    have : (j == i) = false := by simpa using e
    rw [this, Bool.false_or] at h
    exact ⟨e, h⟩

theorem NInv.closed_step (I : NInv wb w0 a0 W D ops ks L a w) {i : Nat} {o : Oper} (ho : ops[i]? = some o) (hd : ∀ e ∈ o.after, Region.binds .any e = true → L e.on = true) :
    ∀ (j : Nat) (o' : Oper), ops[j]? = some o' → (j == i || L j) = true → ∀ e ∈ o'.after, Region.binds .any e = true → (e.on == i || L e.on) = true := by
  intro j o' hj hL e he hb
  rcases setL hL with rfl | ⟨_, hL⟩
  · rw [ho] at hj
    obtain rfl : o = o' := by simpa using hj
    simp [hd e he hb]
  · simp [I.closed j o' hj hL e he hb]

theorem NInv.stepVal (hk : okKinds W a0.tmps.size ks = true) (ol : Olds wb w0 a0 W D ks) (I : NInv wb w0 a0 W D ops ks L a w) {o : Oper} {i d v : Nat} (ho : ops[i]? = some o) (hdep : ∀ e ∈ o.after, Region.binds .any e = true → L e.on = true) (hi : ks[i]? = some (.val d v)) {x : Value} {w' : World} (hx : Val v x) (hg : w.grownBy w' none) :
    NInv wb w0 a0 W D ops ks (fun j => j == i || L j) (a.put (some d) x) w' := by
  have hd := (okKinds_at hk hi hi).1 d rfl
  have ne : ∀ j y d', ks[j]? = some y → j ≠ i → y.dst = some d' → d ≠ d' := fun j y d' hj hne hy e => by
    subst e
    exact ((okKinds_at hk hi hj).1 d rfl).2.2 (Ne.symm hne) hy
  refine ⟨grow_trans I.base hg, I.kept.grow hg (by simp), by simp [Act.put, I.size], by simp [Act.put, I.defs], fun s hs => ?_, I.closed_step ho hdep, ?_, ?_, ?_, ?_, ?_⟩
  · rw [get?_put_ne _ _ _ _ (fun e => hs (by rw [← e]; exact hd.1))]
    exact I.same s hs
  · intro j d' v' hj hL
    rcases setL hL with rfl | ⟨hne, hL⟩
    · rw [hi] at hj
      obtain ⟨rfl, rfl⟩ : d = d' ∧ v = v' := by simpa using hj
      rw [getD_put_same _ _ _ (by rw [I.size]; exact hd.2.1)]
      exact hx
    · rw [getD_put_ne _ _ _ _ (ne j _ d' hj hne rfl)]
      exact I.val j d' v' hj hL
  · intro j d' hj hL
    rcases setL hL with rfl | ⟨hne, hL⟩
    · rw [hi] at hj; cases hj
    · rw [getD_put_ne _ _ _ _ (ne j _ d' hj hne rfl)]
      obtain ⟨k, u, h1, h2, h3⟩ := I.alc j d' hj hL
      exact ⟨k, u, h1, h2, h3.keptN hg⟩
  · intro j m p v' hj hL
    rcases setL hL with rfl | ⟨hne, hL⟩
    · rw [hi] at hj; cases hj
    · obtain ⟨h0, h1, k, h2, h3, h4⟩ := I.sto j m p v' hj hL
      have hmi : m ≠ i := by intro e; subst e; rw [hi] at h1; cases h1
      rw [getD_put_ne _ _ _ _ (ne m _ p h1 hmi rfl)]
      exact ⟨by simp [h0], h1, k, h2, h3, h4.keptN hg⟩
  · intro j p B u v' hj
    have hne : j ≠ i := by intro e; subst e; rw [hi] at hj; cases hj
    have e : (j == i || L j) = L j := by have : (j == i) = false := by simpa using hne
                                         rw [this, Bool.false_or]
    rw [e]
    exact (I.old j p B u v' hj).keptN hg
  · intro j j' d1 d2 h1 h2 hne hL1 hL2
    rcases setL hL1 with rfl | ⟨hn1, hL1⟩
    · rw [hi] at h1; cases h1
    rcases setL hL2 with rfl | ⟨hn2, hL2⟩
    · rw [hi] at h2; cases h2
    rw [getD_put_ne _ _ _ _ (ne j _ d1 h1 hn1 rfl), getD_put_ne _ _ _ _ (ne j' _ d2 h2 hn2 rfl)]
    exact I.apart j j' d1 d2 h1 h2 hne hL1 hL2

theorem NInv.stepAlc (hk : okKinds W a0.tmps.size ks = true) (ol : Olds wb w0 a0 W D ks) (I : NInv wb w0 a0 W D ops ks L a w) {o : Oper} {i d : Nat} (ho : ops[i]? = some o) (hdep : ∀ e ∈ o.after, Region.binds .any e = true → L e.on = true) (hLi : L i = false) (hi : ks[i]? = some (.alc d)) {w' : World} (hg : w.grownBy w' none) (hn : NV w' w.heap.size 0) :
    NInv wb w0 a0 W D ops ks (fun j => j == i || L j) (a.put (some d) (ptrTo w.heap.size)) w' := by
  have hd := (okKinds_at hk hi hi).1 d rfl
  have ne : ∀ j y d', ks[j]? = some y → j ≠ i → y.dst = some d' → d ≠ d' := fun j y d' hj hne hy e => by
    subst e
    exact ((okKinds_at hk hi hj).1 d rfl).2.2 (Ne.symm hne) hy
  have old : ∀ j d', ks[j]? = some (.alc d') → L j = true → a.tmps.getD d' undef ≠ ptrTo w.heap.size := fun j d' hj hL e => by
    obtain ⟨k, u, h1, _, h3⟩ := I.alc j d' hj hL
    rw [h1] at e
    have : k = w.heap.size := by unfold ptrTo at e; injection e with e; injection e with e; injection e
    have := h3.lt
    omega
  refine ⟨grow_trans I.base hg, I.kept.grow hg (by simp), by simp [Act.put, I.size], by simp [Act.put, I.defs], fun s hs => ?_, I.closed_step ho hdep, ?_, ?_, ?_, ?_, ?_⟩
  · rw [get?_put_ne _ _ _ _ (fun e => hs (by rw [← e]; exact hd.1))]
    exact I.same s hs
  · intro j d' v' hj hL
    rcases setL hL with rfl | ⟨hne, hL⟩
    · rw [hi] at hj; cases hj
    · rw [getD_put_ne _ _ _ _ (ne j _ d' hj hne rfl)]
      exact I.val j d' v' hj hL
  · intro j d' hj hL
    rcases setL hL with rfl | ⟨hne, hL⟩
    · rw [hi] at hj
      obtain rfl : d = d' := by simpa using hj
      rw [getD_put_same _ _ _ (by rw [I.size]; exact hd.2.1)]
      exact ⟨w.heap.size, 0, rfl, I.kept.size, hn⟩
    · rw [getD_put_ne _ _ _ _ (ne j _ d' hj hne rfl)]
      obtain ⟨k, u, h1, h2, h3⟩ := I.alc j d' hj hL
      exact ⟨k, u, h1, h2, h3.keptN hg⟩
  · intro j m p v' hj hL
    rcases setL hL with rfl | ⟨hne, hL⟩
    · rw [hi] at hj; cases hj
    · obtain ⟨h0, h1, k, h2, h3, h4⟩ := I.sto j m p v' hj hL
      by_cases hmi : m = i
      · subst hmi
        rw [hi] at h1
        obtain rfl : d = p := by simpa using h1
        rw [hLi] at h0
        cases h0
      · rw [getD_put_ne _ _ _ _ (ne m _ p h1 hmi rfl)]
        exact ⟨by simp [h0], h1, k, h2, h3, h4.keptN hg⟩
  · intro j p B u v' hj
    have hne : j ≠ i := by intro e; subst e; rw [hi] at hj; cases hj
    have e : (j == i || L j) = L j := by have : (j == i) = false := by simpa using hne
                                         rw [this, Bool.false_or]
    rw [e]
    exact (I.old j p B u v' hj).keptN hg
  · intro j j' d1 d2 h1 h2 hne hL1 hL2
    rcases setL hL1 with rfl | ⟨hn1, hM1⟩
    · rcases setL hL2 with rfl | ⟨hn2, hL2⟩
      · exact absurd rfl hne
      · rw [hi] at h1
        obtain rfl : d = d1 := by simpa using h1
        rw [getD_put_same _ _ _ (by rw [I.size]; exact hd.2.1), getD_put_ne _ _ _ _ (ne j' _ d2 h2 hn2 rfl)]
        exact fun e => old j' d2 h2 hL2 e.symm
    · rcases setL hL2 with rfl | ⟨hn2, hL2⟩
      · rw [hi] at h2
        obtain rfl : d = d2 := by simpa using h2
        rw [getD_put_same _ _ _ (by rw [I.size]; exact hd.2.1), getD_put_ne _ _ _ _ (ne j _ d1 h1 hn1 rfl)]
        exact old j d1 h1 hM1
      · rw [getD_put_ne _ _ _ _ (ne j _ d1 h1 hn1 rfl), getD_put_ne _ _ _ _ (ne j' _ d2 h2 hn2 rfl)]
        exact I.apart j j' d1 d2 h1 h2 hne hM1 hL2

theorem NInv.stepSto (hk : okKinds W a0.tmps.size ks = true) (ol : Olds wb w0 a0 W D ks) (I : NInv wb w0 a0 W D ops ks L a w) {o : Oper} {i m p v k : Nat} (ho : ops[i]? = some o) (hdep : ∀ e ∈ o.after, Region.binds .any e = true → L e.on = true) (hLi : L i = false) (hi : ks[i]? = some (.sto m p v)) (hm : ks[m]? = some (.alc p)) (hLm : L m = true)
    (hp : a.tmps.getD p undef = ptrTo k) (hk0 : w0.heap.size ≤ k) {w' : World} (hg : w.grownBy w' (some k)) (hn : NV w' k v) :
    NInv wb w0 a0 W D ops ks (fun j => j == i || L j) a w' := by
  refine ⟨grow_trans_new I.base hg (by have := ol.base; omega), I.kept.grow hg (fun b e => Or.inl (by injection e with e; omega)), I.size, I.defs, I.same, I.closed_step ho hdep, ?_, ?_, ?_, ?_, ?_⟩
  · intro j d' v' hj hL
    rcases setL hL with rfl | ⟨hne, hL⟩
    · rw [hi] at hj; cases hj
    · exact I.val j d' v' hj hL
  · intro j d' hj hL
    rcases setL hL with rfl | ⟨hne, hL⟩
    · rw [hi] at hj; cases hj
    · obtain ⟨k', u, h1, h2, h3⟩ := I.alc j d' hj hL
      by_cases e : k' = k
      · subst e
        exact ⟨k', v, h1, h2, hn⟩
      · exact ⟨k', u, h1, h2, h3.kept hg (by simpa using e)⟩
  · intro j m' p' v' hj hL
    rcases setL hL with rfl | ⟨hne, hL⟩
    · rw [hi] at hj
      obtain ⟨rfl, rfl, rfl⟩ : m = m' ∧ p = p' ∧ v = v' := by simpa using hj
      exact ⟨by simp [hLm], hm, k, hp, hk0, hn⟩
    · obtain ⟨h0, h1, k', h2, h3, h4⟩ := I.sto j m' p' v' hj hL
      have hmm : m' ≠ m := (okKinds_at hk hj hi).2 _ _ _ _ _ _ rfl rfl hne
      have hkk : k' ≠ k := by
        intro e
        subst e
        exact I.apart m' m p' p h1 hm hmm h0 hLm (by rw [h2, hp])
      exact ⟨by simp [h0], h1, k', h2, h3, h4.kept hg (by simpa using hkk)⟩
  · intro j p' B u v' hj
    have hne : j ≠ i := by intro e; subst e; rw [hi] at hj; cases hj
    have e : (j == i || L j) = L j := by have : (j == i) = false := by simpa using hne
                                         rw [this, Bool.false_or]
    rw [e]
    have hB := (ol.lies j p' B u v' hj).2.1
    exact (I.old j p' B u v' hj).kept hg (by simp; omega)
  · intro j j' d1 d2 h1 h2 hne hL1 hL2
    rcases setL hL1 with rfl | ⟨hn1, hL1⟩
    · rw [hi] at h1; cases h1
    rcases setL hL2 with rfl | ⟨hn2, hL2⟩
    · rw [hi] at h2; cases h2
    exact I.apart j j' d1 d2 h1 h2 hne hL1 hL2

theorem NInv.stepOld (ol : Olds wb w0 a0 W D ks) (I : NInv wb w0 a0 W D ops ks L a w) {o : Oper} {i p B u v : Nat} (ho : ops[i]? = some o) (hdep : ∀ e ∈ o.after, Region.binds .any e = true → L e.on = true) (hi : ks[i]? = some (.old p B u v))
    {w' : World} (hg : w.grownBy w' (some B)) (hn : NV w' B v) : NInv wb w0 a0 W D ops ks (fun j => j == i || L j) a w' := by
  obtain ⟨b1, b2, b3, _, _⟩ := ol.lies i p B u v hi
  refine ⟨grow_trans_new I.base hg b3, I.kept.grow hg (fun b e => Or.inr (by injection e with e; subst e; exact b1)), I.size, I.defs, I.same, I.closed_step ho hdep, ?_, ?_, ?_, ?_, ?_⟩
  · intro j d' v' hj hL
    rcases setL hL with rfl | ⟨hne, hL⟩
    · rw [hi] at hj; cases hj
    · exact I.val j d' v' hj hL
  · intro j d' hj hL
    rcases setL hL with rfl | ⟨hne, hL⟩
    · rw [hi] at hj; cases hj
    · obtain ⟨k', u, h1, h2, h3⟩ := I.alc j d' hj hL
      exact ⟨k', u, h1, h2, h3.kept hg (by simp; omega)⟩
  · intro j m' p' v' hj hL
    rcases setL hL with rfl | ⟨hne, hL⟩
    · rw [hi] at hj; cases hj
    · obtain ⟨h0, h1, k', h2, h3, h4⟩ := I.sto j m' p' v' hj hL
      exact ⟨by simp [h0], h1, k', h2, h3, h4.kept hg (by simp; omega)⟩
  · intro j p' B' u' v' hj
    by_cases hne : j = i
    · subst hne
      rw [hi] at hj
      obtain ⟨rfl, rfl, rfl, rfl⟩ : p = p' ∧ B = B' ∧ u = u' ∧ v = v' := by simpa using hj
      simp [hn]
    · have e : (j == i || L j) = L j := by
        have : (j == i) = false := by simpa using hne
        rw [this, Bool.false_or]
      rw [e]
      have hB := ol.differ i j p B u v p' B' u' v' hi hj (fun e => hne e.symm)
      exact (I.old j p' B' u' v' hj).kept hg (by simp; exact fun e => hB e.symm)
  · intro j j' d1 d2 h1 h2 hne hL1 hL2
    rcases setL hL1 with rfl | ⟨hn1, hL1⟩
    · rw [hi] at h1; cases h1
    rcases setL hL2 with rfl | ⟨hn2, hL2⟩
    · rw [hi] at h2; cases h2
    exact I.apart j j' d1 d2 h1 h2 hne hL1 hL2

end

theorem zero_nv (w : World) : NV (w.alloc (.cells #[.int .u64 0, .int .u64 0, .int .u64 0, .int .u64 0, .int .u64 0] 64)) w.heap.size 0 :=
  ⟨[0, 0, 0, 0, 0], obj_new w _, ⟨0, [0, 0, 0, 0], rfl, rfl, by omega, by simp⟩, by decide +kernel⟩

theorem nb_setCells {w : World} {B : Nat} {l l' : List Nat} (h : NB w B l) (e : l'.length = l.length) : NB (w.setCells B 0 (l'.map c64)) B l' := by
  rcases setCells_obj B (l'.map c64) 0 w (l.map c64) _ h with h1 | h1
  · have q : ((l.map c64).take 0 ++ l'.map c64 ++ (l.map c64).drop (0 + (l'.map c64).length)).take (l.map c64).length = l'.map c64 := by
      rw [List.take_zero, List.nil_append, Nat.zero_add, List.drop_of_length_le (by simp; omega), List.append_nil, List.take_of_length_le (by simp; omega)]
    rw [q] at h1
    exact h1
  · simp at h1
    omega

theorem num_under : Tryd.prog.underlying 64 = some (.array 5 59) := Tryd.underlying64
theorem num_size : (Tryd.prog.info? 64).map (·.size) = some 5 := by kernel_rfl
theorem num_zero (w : World) : (Instr.alloc 64 true (.tuple #[])).run Tryd.prog w = .ok (.pointer (some ⟨w.heap.size, 0, none⟩)) (w.alloc (.cells #[.int .u64 0, .int .u64 0, .int .u64 0, .int .u64 0, .int .u64 0] 64)) := by kernel_rfl

theorem wp_alc {o : Oper} {a : Act} {w : World} {K : Act → World → Prop} {Q : Exit → Act → World → Prop} {d : Nat} (ho : o.op = .alloc 64) (hd : o.dst = some d)
    (h : K (a.put (some d) (ptrTo w.heap.size)) (w.alloc (.cells #[.int .u64 0, .int .u64 0, .int .u64 0, .int .u64 0, .int .u64 0] 64))) : o.wp Tryd.prog a w K Q := by
  unfold Oper.wp execOp
  simp only [ho, Sem.run_bind, Sem.run_pure, Result.andThen_ok, num_zero]
  show K (a.put o.dst _) _
  rw [hd]
  exact h

theorem wp_sto {o : Oper} {a : Act} {w : World} {K : Act → World → Prop} {Q : Exit → Act → World → Prop} {p q k v : Nat} {u : Nat} (ho : o.op = .store 64 (.tmp p) (.tmp q)) (hd : o.dst = none)
    (hp : a.tmps.getD p undef = ptrTo k) (hk : NV w k u) (hq : Val v (a.tmps.getD q undef)) (h : ∀ w', w.grownBy w' (some k) → NV w' k v → K a w') : o.wp Tryd.prog a w K Q := by
  obtain ⟨l, hl, ok, hv⟩ := hq
  obtain ⟨l0, hb, ok0, _⟩ := hk
  have h5 := ok.length
  have h50 := ok0.length
  refine wp_store_mid 64 _ _ ho k 0 (l.map c64).toArray hp hl (Blk.there hb _ (by simp [h5, h50])) (by rw [num_size]; simp [h5]) (all_oneCell_toArray (by intro x hx; obtain ⟨n, _, rfl⟩ := List.mem_map.1 hx; rfl)) ?_
  rw [hd]
  refine h _ (grow_setCells k _ _ _ _ (grow_refl w _)) ⟨l, ?_, ok, hv⟩
  exact nb_setCells hb (by rw [h5, h50])

theorem wp_val_load {o : Oper} {a : Act} {w : World} {K : Act → World → Prop} {Q : Exit → Act → World → Prop} {p d k v : Nat} (ho : o.op = .load 64 (.tmp p)) (hd : o.dst = some d)
    (hp : a.tmps.getD p undef = ptrTo k) (hk : NV w k v) (h : ∀ x, Val v x → K (a.put (some d) x) w) : o.wp Tryd.prog a w K Q := by
  obtain ⟨l, hb, ok, hv⟩ := hk
  have h5 := ok.length
  refine wp_load_mid 64 _ ho k 0 hp (l.map c64) _ (Blk.range hb) num_under rfl (by rw [num_size]; simp [h5]) ?_
  rw [hd]
  exact h _ ⟨l, rfl, ok, hv⟩

theorem wp_val_build {o : Oper} {a : Act} {w : World} {K : Act → World → Prop} {Q : Exit → Act → World → Prop} {d : Nat} (ho : o.op = .build 64 #[]) (hd : o.dst = some d)
    (h : ∀ x, Val 0 x → K (a.put (some d) x) w) : o.wp Tryd.prog a w K Q := by
  have e : ∀ w, (Instr.build 64 #[]).run Tryd.prog w = .ok (N5 [0, 0, 0, 0, 0]) w := fun w => by kernel_rfl
  unfold Oper.wp execOp
  simp only [ho, Array.map_empty, Sem.run_bind, Sem.run_pure, Result.andThen_ok, e]
  show K (a.put o.dst _) _
  rw [hd]
  exact h _ ⟨[0, 0, 0, 0, 0], rfl, ⟨0, [0, 0, 0, 0], rfl, rfl, by omega, by simp⟩, by decide +kernel⟩

/-- A callee of two numbers. -/
def NTwo (f : Nat) (x y v : Nat) : Prop := ∀ (w : World) (p q : Value), Val x p → Val y q → Calls Tryd.prog f #[p, q] w fun e w' => ∃ z, e = .returned z ∧ Val v z ∧ w.grownBy w' none
def None0 (f : Nat) (v : Nat) : Prop := ∀ (w : World), Calls Tryd.prog f #[] w fun e w' => ∃ z, e = .returned z ∧ Val v z ∧ w.grownBy w' none

theorem wp_val_two {o : Oper} {a : Act} {w : World} {K : Act → World → Prop} {Q : Exit → Act → World → Prop} {p q d f x y v : Nat} {ts : Array TypeId} (hf : NTwo f x y v)
    (hx : (execOp a.eval o).run Tryd.prog w = .ok (.enter f #[a.tmps.getD p undef, a.tmps.getD q undef]) w) (hd : o.dst = some d)
    (hp : Val x (a.tmps.getD p undef)) (hq : Val y (a.tmps.getD q undef)) (h : ∀ z w', Val v z → w.grownBy w' none → K (a.put (some d) z) w') : o.wp Tryd.prog a w K Q := by
  unfold Oper.wp
  rw [hx, Oper.upon_enter]
  refine (hf w _ _ hp hq).mono ?_
  rintro e w' ⟨z, rfl, hz, hg⟩
  show K (a.put o.dst _) _
  rw [hd]
  exact h z w' hz hg

theorem wp_val_none {o : Oper} {a : Act} {w : World} {K : Act → World → Prop} {Q : Exit → Act → World → Prop} {d f v : Nat} (hf : None0 f v)
    (hx : (execOp a.eval o).run Tryd.prog w = .ok (.enter f #[]) w) (hd : o.dst = some d) (h : ∀ z w', Val v z → w.grownBy w' none → K (a.put (some d) z) w') : o.wp Tryd.prog a w K Q := by
  unfold Oper.wp
  rw [hx, Oper.upon_enter]
  refine (hf w).mono ?_
  rintro e w' ⟨z, rfl, hz, hg⟩
  show K (a.put o.dst _) _
  rw [hd]
  exact h z w' hz hg

theorem wpOp_plain {P : Program} {ops : Array Oper} {Q : Exit → Act → World → Prop} {i : Nat} {o : Oper} {K : Act → World → Prop} {a : Act} {w : World} (ho : ops[i]? = some o) (hg : o.guard = none) (h : o.wp P a w K Q) : wpOp P ops Q i K a w := by
  unfold wpOp
  simp only [ho]
  rw [if_pos (by unfold Region.wanted; rw [hg])]
  exact Or.inl h

def putAll (a : Act) : List Nat → List Value → Act
  | s :: r, v :: vs => putAll (a.put (some s) v) r vs
  | _, _ => a

theorem putAll_spec : ∀ (W : List Nat) (a0 a : Act), a.tmps.size = a0.tmps.size → a.defers = a0.defers → (∀ s, s ∉ W → a.tmps[s]? = a0.tmps[s]?) → ∃ vs, vs.length = W.length ∧ a = putAll a0 W vs
  | [], a0, a, h1, h2, h3 => ⟨[], rfl, by
      cases a; cases a0
      simp only at h1 h2 h3
      subst h2
      have : ∀ (x y : Array Value), (∀ s : Nat, x[s]? = y[s]?) → x = y := fun x y h => Array.ext_getElem? h
      rw [this _ _ (fun s => h3 s (by simp))]
      rfl⟩
  | s :: W, a0, a, h1, h2, h3 => by
    obtain ⟨vs, hl, e⟩ := putAll_spec W (a0.put (some s) (a.tmps.getD s undef)) a (by simp [Act.put, h1]) (by simp [Act.put, h2]) (fun t ht => by
      by_cases hts : s = t
      · subst hts
        by_cases hlt : s < a0.tmps.size
        · simp [Act.put, hlt, h1]
        · simp [Act.put, Array.getElem?_eq_none (show a.tmps.size ≤ s by omega), hlt]
      · rw [get?_put_ne _ _ _ _ hts]
        exact h3 t (by simp [ht]; exact fun e => hts e.symm))
    exact ⟨a.tmps.getD s undef :: vs, by simp [hl], e⟩

theorem nums_step {ops : Array Oper} {Q : Exit → Act → World → Prop} {wb w0 : World} {a0 : Act} {W D : List Nat} {ks : List Kd} (hks : ks.length = ops.size) (hk : okKinds W a0.tmps.size ks = true) (ol : Olds wb w0 a0 W D ks)
    (hf : ∀ (i : Nat) (o : Oper) (k : Kd), ops[i]? = some o → ks[i]? = some k → Fits Tryd.prog 64 ops Q wb w0 a0 W D ks i o k)
    (L : Nat → Bool) (i : Nat) (o : Oper) (a : Act) (w : World) (ho : ops[i]? = some o) (hLi : L i = false) (hdeps : ∀ e ∈ o.after, Region.binds .any e = true → L e.on = true) (I : NInv wb w0 a0 W D ops ks L a w) :
    o.wp Tryd.prog a w (NInv wb w0 a0 W D ops ks fun j => j == i || L j) Q := by
  have hi : i < ks.length := by rw [hks]; exact (Array.getElem?_eq_some_iff.1 ho).1
  have hki : ks[i]? = some ks[i] := by simp [hi]
  have F := hf i o ks[i] ho hki
  generalize ks[i] = k at *
  cases k with
  | val d v =>
    exact F L a w _ I hLi hdeps fun x w2 hx hg2 => I.stepVal hk ol ho hdeps hki hx hg2
  | alc d =>
    exact wp_alc F.1 F.2 (I.stepAlc hk ol ho hdeps hLi hki (World.grownBy_alloc _ _ _) (zero_nv _))
  | sto m p v =>
    obtain ⟨q, n, h1, h2, h3, h4, w1, w2⟩ := F
    have hLn : L n = true := waits_spec w1 hdeps
    have hLm : L m = true := waits_spec w2 hdeps
    obtain ⟨k, u, c1, c2, c3⟩ := I.alc m p h4 hLm
    exact wp_sto h1 h2 c1 c3 (I.val n q v h3 hLn) fun w2 g2 n2 => I.stepSto hk ol ho hdeps hLi hki h4 hLm c1 c2 g2 n2
  | old p B u v =>
    obtain ⟨q, n, h1, h2, h3, w1⟩ := F
    have hLn : L n = true := waits_spec w1 hdeps
    obtain ⟨b1, b2, b3, b4, b5⟩ := ol.lies i p B u v hki
    have hp : a.tmps.getD p undef = ptrTo B := by
      rw [← b5]
      have := I.same p b4
      simp only [Array.getD_eq_getD_getElem?, this]
    exact wp_sto h1 h2 hp (I.old i p B u v hki) (I.val n q v h3 hLn) fun w2 g2 n2 => I.stepOld ol ho hdeps hki g2 n2

/-- What holds behind the region. -/
def Done (wb w0 : World) (a0 : Act) (W D : List Nat) (ops : Array Oper) (ks : List Kd) (a : Act) (w : World) : Prop := NInv wb w0 a0 W D ops ks (fun _ => true) a w

theorem nums_fin {ops : Array Oper} {wb w0 : World} {a0 : Act} {W D : List Nat} {ks : List Kd} (hks : ks.length = ops.size) {L : Nat → Bool} {a : Act} {w : World} (hL : ∀ i, i < ops.size → L i = true) (I : NInv wb w0 a0 W D ops ks L a w) :
    ∃ vs, vs.length = W.length ∧ a = putAll a0 W vs ∧ Done wb w0 a0 W D ops ks a w := by
  obtain ⟨vs, hl, e⟩ := putAll_spec W a0 a I.size I.defs I.same
  have lt : ∀ i x, ks[i]? = some x → L i = true := fun i x h => hL i (by rw [← hks]; exact (List.getElem?_eq_some_iff.1 h).1)
  exact ⟨vs, hl, e, I.base, I.kept, I.size, I.defs, I.same, fun _ _ _ _ _ _ _ => rfl, fun i d v h _ => I.val i d v h (lt i _ h), fun i d h _ => I.alc i d h (lt i _ h),
    fun i m p v h _ => ⟨rfl, (I.sto i m p v h (lt i _ h)).2⟩, fun i p B u v h => by have := I.old i p B u v h; rw [if_pos (lt i _ h)] at this; simpa using this,
    fun i j d d' h1 h2 hne _ _ => I.apart i j d d' h1 h2 hne (lt i _ h1) (lt j _ h2)⟩

theorem nums_start {ops : Array Oper} {wb w0 w : World} {a0 : Act} {W D : List Nat} {ks : List Kd} (hb : wb.grownBy w none) (hk : KeptBut D w0 w) (ho : ∀ (i p B u v : Nat), ks[i]? = some (.old p B u v) → NV w B u) : NInv wb w0 a0 W D ops ks (fun _ => false) a0 w :=
  ⟨hb, hk, rfl, rfl, fun _ _ => rfl, fun _ _ _ h => by simp at h, fun _ _ _ _ h => by simp at h, fun _ _ _ h => by simp at h, fun _ _ _ _ _ h => by simp at h, fun i p B u v h => by simpa using ho i p B u v h, fun _ _ _ _ _ _ _ h => by simp at h⟩

theorem region_nums {ops : Array Oper} {Q : Exit → Act → World → Prop} {id : Nat} {a0 : Act} {wb w : World} (W D : List Nat) (ks : List Kd) (hks : ks.length = ops.size) (hk : okKinds W a0.tmps.size ks = true) (ol : Olds wb w a0 W D ks) (hm : Tryd.prog.follows .mixedOrders = true) (he : earlierB .any ops = true)
    (hg : ops.all (fun o => o.guard.isNone) = true) (hb : wb.grownBy w none) (ho : ∀ (i p B u v : Nat), ks[i]? = some (.old p B u v) → NV w B u)
    (hf : ∀ (i : Nat) (o : Oper) (k : Kd), ops[i]? = some o → ks[i]? = some k → Fits Tryd.prog 64 ops Q wb w a0 W D ks i o k)
    (fin : ∀ (vs : List Value) (w' : World), vs.length = W.length → Done wb w a0 W D ops ks (putAll a0 W vs) w' → Q .normal (putAll a0 W vs) w') : (Code.region id ops true).wp Tryd.prog Q a0 w := by
  refine wp_region_inv hm he (NInv wb w a0 W D ops ks) ?_ ?_ (nums_start (grow_drew hb) ⟨Nat.le_refl _, fun _ _ _ => rfl⟩ ho)
  · intro L i o a w' ho hLi hdeps I
    exact wpOp_plain ho (by have := Array.all_eq_true_iff_forall_mem.1 hg o (Array.mem_of_getElem? ho); simpa using this) (nums_step hks hk ol hf L i o a w' ho hLi hdeps I)
  · intro L a w' hL I
    obtain ⟨vs, hl, e, hd⟩ := nums_fin hks hL I
    subst e
    exact fin vs w' hl hd

theorem nums_list {ops : Array Oper} {Q : Exit → Act → World → Prop} {wb w0 : World} {a0 : Act} {W D : List Nat} {ks : List Kd} (hks : ks.length = ops.size) (hk : okKinds W a0.tmps.size ks = true) (ol : Olds wb w0 a0 W D ks) (he : earlierB .any ops = true)
    (hg : ops.all (fun o => o.guard.isNone) = true)
    (hf : ∀ (i : Nat) (o : Oper) (k : Kd), ops[i]? = some o → ks[i]? = some k → Fits Tryd.prog 64 ops Q wb w0 a0 W D ks i o k)
    (fin : ∀ (L : Nat → Bool) (a : Act) (w' : World), (∀ i, i < ops.size → L i = true) → NInv wb w0 a0 W D ops ks L a w' → Q .normal a w') :
    ∀ (l : List Oper) (k : Nat), (∀ j, l[j]? = ops[k + j]?) → k + l.length = ops.size → ∀ (a : Act) (w : World), NInv wb w0 a0 W D ops ks (fun j => decide (j < k)) a w → wpList Tryd.prog ops Q l a w
  | [], k, _, hn, a, w, I => fin _ a w (fun i hi => by simp at hn; simp; omega) I
  | o :: l, k, hl, hn, a, w, I => by
    have ho : ops[k]? = some o := by simpa using (hl 0).symm
    refine wpList_plain (by have := Array.all_eq_true_iff_forall_mem.1 hg o (Array.mem_of_getElem? ho); simpa using this) fun K hK => ?_
    refine Oper.wp_mono (fun a w h => hK a w h) (Oper.wp_mono (fun a w I' => ?_) (nums_step hks hk ol hf (fun j => decide (j < k)) k o a w ho (by simp) (fun e h1 h2 => by have := earlierB_spec he ho e h1 h2; simpa using this) I))
    refine nums_list hks hk ol he hg hf fin l (k + 1) (fun j => by have := hl (j + 1); simpa [Nat.add_assoc, Nat.add_comm 1 j] using this) (by simp at hn; omega) a w ?_
    have e : (fun j => decide (j < k + 1)) = (fun j => j == k || decide (j < k)) := by
      funext j
      by_cases h : j = k
      · subst h; simp
      · have : (j == k) = false := by simpa using h
        rw [this, Bool.false_or]
        congr 1
        exact propext ⟨fun q => by omega, fun q => by omega⟩
    rw [e]
    exact I'

/-- .. a plain region. -/
theorem plain_nums {l : List Oper} {Q : Exit → Act → World → Prop} {id : Nat} {a0 : Act} {wb w : World} (W D : List Nat) (ks : List Kd) (hks : ks.length = l.toArray.size) (hk : okKinds W a0.tmps.size ks = true) (ol : Olds wb w a0 W D ks) (he : earlierB .any l.toArray = true)
    (hg : l.toArray.all (fun o => o.guard.isNone) = true) (hb : wb.grownBy w none) (ho : ∀ (i p B u v : Nat), ks[i]? = some (.old p B u v) → NV w B u)
    (hf : ∀ (i : Nat) (o : Oper) (k : Kd), l.toArray[i]? = some o → ks[i]? = some k → Fits Tryd.prog 64 l.toArray Q wb w a0 W D ks i o k)
    (fin : ∀ (vs : List Value) (w' : World), vs.length = W.length → Done wb w a0 W D l.toArray ks (putAll a0 W vs) w' → Q .normal (putAll a0 W vs) w') : (Code.region id l.toArray false).wp Tryd.prog Q a0 w := by
  refine wp_region_lit ?_
  refine nums_list hks hk ol he hg hf ?_ l 0 (fun j => by simp) (by simp) a0 w ?_
  · intro L a w' hL I
    obtain ⟨vs, hl, e, hd⟩ := nums_fin hks hL I
    subst e
    exact fin vs w' hl hd
  · have e : (fun j => decide (j < 0)) = (fun _ : Nat => false) := by funext j; simp
    rw [e]
    exact nums_start hb ⟨Nat.le_refl _, fun _ _ _ => rfl⟩ ho

section
variable {ops : Array Oper} {Q : Exit → Act → World → Prop} {wb w0 : World} {a0 : Act} {W D : List Nat} {ks : List Kd} {i : Nat} {o : Oper} {d v : Nat}

theorem getD_same {a : Act} {p : Nat} (h : a.tmps[p]? = a0.tmps[p]?) : a.tmps.getD p undef = a0.tmps.getD p undef := by simp only [Array.getD_eq_getD_getElem?, h]

theorem fits_load (p B : Nat) (hv : NV w0 B v) (ho : o.op = .load 64 (.tmp p)) (hd : o.dst = some d) (hp : p ∉ W) (h0 : a0.tmps.getD p undef = ptrTo B) (hB : B ∉ D) : Fits Tryd.prog 64 ops Q wb w0 a0 W D ks i o (.val d v) := by
  intro L a w K I hLi hdep hK
  exact wp_val_load ho hd (by rw [getD_same (I.same p hp)]; exact h0) (hv.keptBut I.kept hB) fun x hx => hK x w hx (grow_refl _ _)

theorem fits_load_old (p B n p' v' : Nat) (oj : Oper) (hj : ks[n]? = some (.old p' B v v')) (hoj : ops[n]? = some oj) (hw : waits oj i = true) (ho : o.op = .load 64 (.tmp p)) (hd : o.dst = some d) (hp : p ∉ W) (h0 : a0.tmps.getD p undef = ptrTo B) : Fits Tryd.prog 64 ops Q wb w0 a0 W D ks i o (.val d v) := by
  intro L a w K I hLi hdep hK
  have hLn : L n = false := by
    rcases hb : L n with _ | _
    · rfl
    · have := waits_spec hw (I.closed n oj hoj hb)
      rw [hLi] at this
      cases this
  have hv := I.old n p' B v v' hj
  rw [hLn] at hv
  exact wp_val_load ho hd (by rw [getD_same (I.same p hp)]; exact h0) (by simpa using hv) fun x hx => hK x w hx (grow_refl _ _)

theorem fits_two (f q1 q2 n1 n2 x y : Nat) (hf : NTwo f x y v) (hcall : ∀ (x y : Value) (w : World), (callFunc f #[x, y]).run Tryd.prog w = .ok (.enter f #[x, y]) w) (tys : Array TypeId)
    (ho : o.op = .call { callee := .value (.func f), args := #[.tmp q1, .tmp q2], argTypes := tys }) (hd : o.dst = some d) (k1 : ks[n1]? = some (.val q1 x)) (k2 : ks[n2]? = some (.val q2 y)) (w1 : waits o n1 = true) (w2 : waits o n2 = true) :
    Fits Tryd.prog 64 ops Q wb w0 a0 W D ks i o (.val d v) := by
  intro L a w K I hLi hdep hK
  refine wp_val_two (p := q1) (q := q2) (ts := #[]) hf ?_ hd (I.val n1 q1 x k1 (waits_spec w1 hdep)) (I.val n2 q2 y k2 (waits_spec w2 hdep)) hK
  unfold execOp
  simp only [ho, resolve, Deferred.ofValue, Act.eval, List.map_toArray, List.map_cons, List.map_nil, Sem.run_bind, Sem.run_pure, Result.andThen_ok, invoke]
  exact hcall _ _ _

theorem fits_none (f : Nat) (hf : None0 f v) (hcall : ∀ (w : World), (callFunc f #[]).run Tryd.prog w = .ok (.enter f #[]) w) (tys : Array TypeId)
    (ho : o.op = .call { callee := .value (.func f), args := #[], argTypes := tys }) (hd : o.dst = some d) : Fits Tryd.prog 64 ops Q wb w0 a0 W D ks i o (.val d v) := by
  intro L a w K I hLi hdep hK
  refine wp_val_none hf ?_ hd hK
  unfold execOp
  simp only [ho, resolve, Deferred.ofValue, Act.eval, List.map_toArray, List.map_nil, Sem.run_bind, Sem.run_pure, Result.andThen_ok, invoke]
  exact hcall _

theorem fits_build (ho : o.op = .build 64 #[]) (hd : o.dst = some d) : Fits Tryd.prog 64 ops Q wb w0 a0 W D ks i o (.val d 0) := by
  intro L a w K I hLi hdep hK
  exact wp_val_build ho hd fun x hx => hK x w hx (grow_refl _ _)

end
end Go.Proofs.YtmceahknglkhoaaDoor
