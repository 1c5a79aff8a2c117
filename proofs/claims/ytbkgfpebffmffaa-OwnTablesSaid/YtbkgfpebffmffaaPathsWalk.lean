/- The walk over a table's prefixes. -/
import Derived.Test.YtbkgfpebffmffaaPathsHeap
import Derived.Test.YtbkgfpebffmffaaRangeAll
import Derived.OwnWalkIn
import Derived.TacticsInMore
import Derived.LoopNIn
import Derived.LoopIn
import Derived.Shelf.RegionOpen
import Derived.Deep.RegionHeld3
import Derived.StillTailTactics
namespace Go.Proofs.Ytbkgfpebffmffaa
open Go.RowKit
set_option linter.unusedVariables false
attribute [local go_sem] Oper.semAt_some

/-- A prefix in a block of its own. -/
def Pt (o : Obj) : Prop := ∃ x y : Value, o = .cells #[x, y] 25 (0, 0)
theorem Pt.cells (o : Obj) (h : Pt o) : o.isCells = true := by obtain ⟨x, y, rfl⟩ := h; rfl
def Pv (p : Pf) : Value := .agg #[.int .u32 (addrP p : Int), .int .i64 (p.length : Int)]
/-- What the walker has to know of the memory: the nodes, and which of those that are to come have marks. -/
def Rw (tb : Nat) (N : Pf → Option Nat) (M : Pf → Bool) (pre : List (Pf × Int)) (W : World) : Prop :=
  ∃ M' V' many, Tree W tb N M' V' many ∧ ∀ q, (∀ x ∈ pre, x.1 ≠ q) → M' q = M q

theorem none_below {N : Pf → Option Nat} (hpre : ∀ p c, N p = none → N (p ++ [c]) = none) (p : Pf) (h : N p = none) (r : Pf) : N (p ++ r) = none := by
  induction r using snoc_ind with
  | h0 => rwa [List.append_nil]
  | h1 r b ih => rw [← List.append_assoc]; exact hpre _ _ ih
theorem own_none {N : Pf → Option Nat} {M : Pf → Bool} {V : Pf → Int} (hpre : ∀ p c, N p = none → N (p ++ [c]) = none) (hmark : ∀ p, M p = true → N p ≠ none) (p : Pf) (h : N p = none) (r : Pf) : ownO M V (p ++ r) = none := by
  unfold ownO
  rw [if_neg]
  exact fun hm => hmark _ hm (none_below hpre p h r)
theorem all_apart {O : Own} {pre rest : List (Pf × Int)} {x : Pf × Int} (h : allP O = pre ++ x :: rest) : ∀ y ∈ pre, y.1 ≠ x.1 := by
  intro y hy e
  have hs := all_sorted O
  rw [h, List.pairwise_append] at hs
  have := hs.2.2 y hy x List.mem_cons_self
  unfold ltP at this
  rw [e] at this
  omega
theorem all_mark {M : Pf → Bool} {V : Pf → Int} {pre : List (Pf × Int)} {rest : List (Pf × Int)} (h : allP (ownO M V) = pre ++ rest) {q : Pf} (hq : M q = false) : ∀ y ∈ pre, y.1 ≠ q := by
  intro y hy e
  have hm : y ∈ allP (ownO M V) := by rw [h]; exact List.mem_append_left _ hy
  have := ((allP_mem _ _).1 hm).2
  unfold ownO at this
  rw [e, hq] at this
  cases this

theorem u32_or_pow (p : Pf) (h : p.length < 32) : bits .or .u32 (addrP p : Int) (2 ^ (31 - p.length)) = (addrP (p ++ [true]) : Int) := by
  have hp := addrP_lt p (by omega)
  have hlt : (2 : Nat) ^ (31 - p.length) < 4294967296 := Nat.lt_of_le_of_lt (Nat.pow_le_pow_right (by omega) (show 31 - p.length ≤ 31 by omega)) (by decide)
  have e : ((2 : Int) ^ (31 - p.length)) = ((2 ^ (31 - p.length) : Nat) : Int) := by simp
  rw [e, u32_or_nat _ _ hp hlt, (addr_half p h).1]
  congr 1
  unfold addrP
  have e2 : 32 - p.length = (31 - p.length) + 1 := by omega
  rw [e2, Nat.mul_comm]
  exact (Nat.two_pow_add_eq_or_of_lt (Nat.pow_lt_pow_right (by omega) (Nat.lt_succ_self _)) _).symm

theorem KeepPt.set {W A : World} (h : KeepPt Pt W A) {B : Nat} (hB : W.heap.size ≤ B) (i : Nat) (v : Value) : KeepPt Pt W (A.setCell ⟨B, i, none⟩ v) := fun r o hr ho =>
  ((grow_setCell (grow_refl A (some B)) i v).block r (lt_of_obj (h r o hr ho)) (by have := lt_of_obj hr; simp; omega)).trans (h r o hr ho)
theorem KeepPt.more {W A A' : World} (h : KeepPt Pt W A) (g : A.grownBy A' none) : KeepPt Pt W A' := h.trans (KeepPt.grown g (fun r o e => by cases e))
theorem OwnT.setP {β : Type} {B0 : Nat} {J : β → World → Prop} (hJ : OwnT B0 Pt J) {s : β} {A : World} (hs : J s A) {B : Nat} (hle : B0 ≤ B) {x y : Value} (hB : A.heap[B]? = some (.cells #[x, y] 25 (0, 0))) (i : Nat) (v : Value) : J s (A.setCell ⟨B, i, none⟩ v) :=
  hJ s A _ (some B) hs (grow_setCell (grow_refl A (some B)) i v) (fun r e => by cases e; exact ⟨hle, _, hB, _, _, rfl⟩)

set_option maxRecDepth 100000 in
set_option maxHeartbeats 4000000 in
theorem code_ptwalk (tb l : Nat) (N : Pf → Option Nat) (M : Pf → Bool) (V : Pf → Int) (hpre : ∀ p c, N p = none → N (p ++ [c]) = none) (hlen : ∀ p b, N p = some b → p.length ≤ 32) (hmark : ∀ p, M p = true → N p ≠ none)
    (B0 : Nat) (J : List (Pf × Int) → World → Prop) (hJ : OwnT B0 Pt J) (hBJ : ∀ pre W, J pre W → B0 ≤ W.heap.size) (hR : ∀ pre W, J pre W → Rw tb N M pre W)
    (hY : ∀ pre x rest W1, allP (ownO M V) = pre ++ x :: rest → J pre W1 → YieldAt Fence.wide 0 Try.prog l #[Pv x.1, ptrN (N x.1)] W1 fun e W' => e = .returned (.bool true) ∧ J (pre ++ [x]) W' ∧ KeepPt Pt W1 W') :
    ∀ (f : Nat) (q : Pf) (x y : Int) (pre rest : List (Pf × Int)) (W : World), q.length + f = 33 → y = (q.length : Int) → (N q ≠ none → x = (addrP q : Int)) → allP (ownO M V) = pre ++ (lstP (ownO M V) f q ++ rest) → J pre W →
      Calls Try.prog 22 #[ptrN (N q), .agg #[.int .u32 x, .int .i64 y], .func (.yield l) #[] #[]] W fun e W' => e = .returned (.bool true) ∧ J (pre ++ lstP (ownO M V) f q) W' ∧ KeepPt Pt W W' := by
  intro f
  induction f with
  | zero =>
    intro q x y pre rest W hq hy hx hL h0
    have hN : N q = none := by
      cases h : N q with
      | none => rfl
      | some b => have := hlen q b h; omega
    rw [hN]
    rw [lstP, List.append_nil]
    unfold ptrN
    go_enter Try.func22, Try.ntmps22
    go_wp2
    go_ret
    exact ⟨rfl, hJ.new h0 (World.grownBy_alloc _ _ none), KeepPt.grown (World.grownBy_alloc _ _ none) (fun r o e => by cases e)⟩
  | succ f ih =>
    intro q x y pre rest W hq hy hx hL h0
    cases hN : N q with
    | none =>
      rw [lstP_nil _ _ _ (own_none hpre hmark q hN), List.append_nil]
      unfold ptrN
      go_enter Try.func22, Try.ntmps22
      go_wp2
      go_ret
      exact ⟨rfl, hJ.new h0 (World.grownBy_alloc _ _ none), KeepPt.grown (World.grownBy_alloc _ _ none) (fun r o e => by cases e)⟩
    | some b =>
      obtain rfl := hx (by rw [hN]; simp)
      have hBW := Lib.hid (hBJ pre W h0)
      subst hy
      have hl32 := hlen q b hN
      clear hx
      obtain ⟨M', V', many, T, hM⟩ := hR pre W h0
      have T1 := T.new (World.grownBy_alloc W (.cells #[.int .u32 (addrP q : Int), .int .i64 (q.length : Int)] 25) none)
      obtain ⟨k0, k1, k2, k3⟩ := (T1.blk q b hN).cells
      have hJ1 := hJ.new h0 (World.grownBy_alloc W (.cells #[.int .u32 (addrP q : Int), .int .i64 (q.length : Int)] 25) none)
      have hK1 : KeepPt Pt W (W.alloc (.cells #[.int .u32 (addrP q : Int), .int .i64 (q.length : Int)] 25)) := KeepPt.grown (World.grownBy_alloc _ _ none) (fun r o e => by cases e)
      have hB1 := obj_new W (.cells #[.int .u32 (addrP q : Int), .int .i64 (q.length : Int)] 25)
      have b0 := obj_cell hB1 0
      have b1 := obj_cell hB1 1
      rw [lstP] at hL
      cases hMq : M q with
      | true =>
        have hh : hereP (ownO M V) q = [(q, V q)] := by unfold hereP ownO; rw [hMq]; rfl
        rw [hh, List.append_assoc, List.append_assoc] at hL
        have hm : M' q = true := by rw [hM q (all_apart hL), hMq]
        rw [hm] at k2
        obtain ⟨fn, tmps, assign, body, hy, hRd⟩ := hY pre (q, V q) _ _ hL hJ1
        dsimp only at hy
        rw [hN] at hy
        unfold Pv ptrN at hy
        clear k0 k1 k3 T1 T
        unfold ptrN
        simp only [Option.map_some] at hy ⊢
        refine (callsIn_wide (n := 0)).1 (callsIn_of_wp Try.func22 rfl trivial ?_ rfl)
        simp only [Try.ntmps22, List.size_toArray, List.length_cons, List.length_nil, Nat.reduceAdd, Nat.reduceSub, Array.replicate_succ, Array.replicate_zero, List.push_toArray, List.append_toArray, List.nil_append, List.cons_append]
        gi_wp2_with (refine ⟨rfl, ?_⟩; refine hRd.mono ?_; clear hRd; rintro e W2 ⟨rfl, hJ2, hk2⟩; have hB2 := hk2 _ _ hB1 ⟨_, _, rfl⟩; have d0 := obj_cell hB2 0; have d1 := obj_cell hB2 1; have df := obj_frozen hB2 1)
        have hK2 := hK1.trans hk2
        have HL : Hid (allP (ownO M V) = (pre ++ [(q, V q)]) ++ (lstP (ownO M V) f (q ++ [false]) ++ (lstP (ownO M V) f (q ++ [true]) ++ rest))) := Lib.hid (by rw [hL, List.append_assoc pre])
        have HE : Hid (pre ++ [(q, V q)] = pre ++ hereP (ownO M V) q) := Lib.hid (by rw [hh])
        generalize pre ++ [(q, V q)] = pre2 at *
        clear hy hk2
        have hJ3 := hJ.setP hJ2 hBW.out hB2 1 (.int .i64 ((q.length : Int) + 1))
        have hB3 := obj_setCell hB2 1 (.int .i64 ((q.length : Int) + 1))
        have g4 := World.grownBy_alloc (W2.setCell ⟨W.heap.size, 1, none⟩ (.int .i64 ((q.length : Int) + 1))) (.cells #[.int .u32 (addrP q : Int), .int .i64 ((q.length : Int) + 1)] 25) none
        have hJ4 := hJ.new hJ3 g4
        have hB4 := obj_alloc (o' := .cells #[.int .u32 (addrP q : Int), .int .i64 ((q.length : Int) + 1)] 25) hB3
        have hC4 := obj_new (W2.setCell ⟨W.heap.size, 1, none⟩ (.int .i64 ((q.length : Int) + 1))) (.cells #[.int .u32 (addrP q : Int), .int .i64 ((q.length : Int) + 1)] 25)
        have hK4 := (KeepPt.set hK2 (Nat.le_refl _) 1 (.int .i64 ((q.length : Int) + 1))).more g4
        have ez : (W2.setCell ⟨W.heap.size, 1, none⟩ (.int .i64 ((q.length : Int) + 1))).heap.size = W2.heap.size := by simp [World.setCell]
        rw [ez] at hC4
        clear hJ3 hB3 g4 hK2 hB2 hJ2 d0 d1 df ez hJ1 hK1 hB1 b0 b1 hL hh hm k2 hM h0
        simp only [List.setIfInBounds_toArray, List.set_cons_succ, List.set_cons_zero] at hB4
        generalize (W2.setCell ⟨W.heap.size, 1, none⟩ (.int .i64 ((q.length : Int) + 1))).alloc (.cells #[.int .u32 (addrP q : Int), .int .i64 ((q.length : Int) + 1)] 25) = W4 at *
        generalize W2.heap.size = C at *
        obtain ⟨M4, V4, many4, T4, _⟩ := hR _ _ hJ4
        have k0 := (T4.blk q b hN).cells.1
        have c0 := obj_cell hC4 0
        have c1 := obj_cell hC4 1
        have A := ih (q ++ [false]) (addrP q : Int) ((q.length : Int) + 1) pre2 (lstP (ownO M V) f (q ++ [true]) ++ rest) W4.drew (by simp; omega) (by simp) (fun hn => by
          have hl : q.length < 32 := by
            cases hz : N (q ++ [false]) with
            | none => exact absurd hz hn
            | some d => have := hlen _ _ hz; simp at this; omega
          rw [(addr_half q hl).2]) HL.out (hJ.new hJ4 (grow_drew (grow_refl _ _)))
        clear T4
        refine wpIn_wide.2 ?_
        go_region_held3 (fun X => X.cell? ⟨b, 0, none⟩ = some (ptrN (N (q ++ [false]))) ∧ X.cell? ⟨C, 0, none⟩ = some (.int .u32 (addrP q : Int)) ∧ X.cell? ⟨C, 1, none⟩ = some (.int .i64 ((q.length : Int) + 1))) (first | exact ⟨k0, c0, c1⟩ | exact ⟨k0', c0', c1'⟩) (first
          | (go_at_call 22; (with_reducible refine A.mono ?_); rintro e W5 ⟨rfl, hJ5, hk5⟩; obtain ⟨M5, V5, many5, T5, _⟩ := hR _ _ hJ5; obtain ⟨k0', k1', _, _⟩ := (T5.blk q b hN).cells; have hC5 := hk5 _ _ hC4 ⟨_, _, rfl⟩; have c0' := obj_cell hC5 0; have c1' := obj_cell hC5 1; have hB5 := hk5 _ _ hB4 ⟨_, _, rfl⟩))
        have u0 := obj_cell hB5 0
        have u1 := obj_cell hB5 1
        have uf := obj_frozen hB5 0
        clear A k0 c0 c1 hC5 c0' c1' k0' hC4 hB4 hJ4
        have hK5 : KeepPt Pt W W5 := (KeepPt.more hK4 (grow_drew (grow_refl _ none))).trans hk5
        clear hK4 hk5
        by_cases hlt : q.length < 32
        · have hle : (q.length : Int) + 1 ≤ 32 := by omega
          obtain ⟨k, hk⟩ : ∃ k, k = 31 - q.length := ⟨_, rfl⟩
          have s1 : IntKind.i64.wrap (32 - ((q.length : Int) + 1)) = (k : Int) := by
            rw [show (32 - ((q.length : Int) + 1) : Int) = (k : Int) from by omega]
            exact IntWalk.i64_in _ (by omega)
          have s2 : (0 : Int) ≤ (k : Int) := by omega
          have s3 : ((k : Int)).toNat = k := by omega
          have s5 : IntKind.u32.wrap (2 ^ min k 32) = 2 ^ k := by
            have hlt2 : (2 : Nat) ^ k < 4294967296 := Nat.lt_of_le_of_lt (Nat.pow_le_pow_right (by omega) (show k ≤ 31 by omega)) (by decide)
            rw [show min k 32 = k from by omega, show ((2 : Int) ^ k) = ((2 ^ k : Nat) : Int) from by simp]
            generalize (2 : Nat) ^ k = c at hlt2 ⊢
            exact IntWalk.u32_in _ (by omega)
          have s4 : bits .or .u32 (addrP q : Int) (IntKind.u32.wrap (2 ^ min k 32)) = (addrP (q ++ [true]) : Int) := by rw [s5, hk]; exact u32_or_pow q hlt
          clear s5
          clear hk
          gi_wp2_with (fail)
          refine wpIn_wide.2 ?_
          go_still_tail 8, (by kernel_rfl)
          change wpList _ _ _ _ _ W5.drew
          go_wp2_with fail
          have hJ6 := hJ.new (hJ.setP hJ5 hBW.out hB5 0 (.int .u32 (addrP (q ++ [true]) : Int))) (grow_drew (grow_refl _ none))
          have hB6 := Blk.drew (Blk.set hB5 0 (.int .u32 (addrP (q ++ [true]) : Int)))
          have hK6 := KeepPt.more (KeepPt.set hK5 (Nat.le_refl _) 0 (.int .u32 (addrP (q ++ [true]) : Int))) (grow_drew (grow_refl _ none))
          clear hK5 hJ5 hB5 T5 u0 u1 uf k1' s1 s2 s3 s4
          generalize (W5.setCell ⟨W.heap.size, 0, none⟩ (.int .u32 (addrP (q ++ [true]) : Int))).drew = W6 at *
          obtain ⟨M6, V6, many6, T6, _⟩ := hR _ _ hJ6
          obtain ⟨_, k1', _, _⟩ := (T6.blk q b hN).cells
          have u0 := Blk.cell hB6 0
          have u1 := Blk.cell hB6 1
          have A := ih (q ++ [true]) (addrP (q ++ [true]) : Int) ((q.length : Int) + 1) (pre2 ++ lstP (ownO M V) f (q ++ [false])) rest W6.drew (by simp; omega) (by simp) (fun _ => rfl) (by rw [List.append_assoc]; exact HL.out) (hJ.new hJ6 (grow_drew (grow_refl _ _)))
          clear T6
          gi_wp2_with (fail)
          refine wpIn_wide.2 ?_
          go_region_held3 (fun X => X.cell? ⟨b, 1, none⟩ = some (ptrN (N (q ++ [true]))) ∧ X.cell? ⟨W.heap.size, 0, none⟩ = some (.int .u32 (addrP (q ++ [true]) : Int)) ∧ X.cell? ⟨W.heap.size, 1, none⟩ = some (.int .i64 ((q.length : Int) + 1))) (first | exact ⟨k1', u0, u1⟩ | trivial) (first
            | (go_at_call 22; (with_reducible refine A.mono ?_); rintro e W7 ⟨rfl, hJ7, hk7⟩; have v0 := Blk.cell (hk7 _ _ hB6 ⟨_, _, rfl⟩) 0; have v1 := Blk.cell (hk7 _ _ hB6 ⟨_, _, rfl⟩) 1; obtain ⟨M7, V7, many7, T7, _⟩ := hR _ _ hJ7; obtain ⟨_, k1', _, _⟩ := (T7.blk q b hN).cells))
          gi_wp2_with (fail)
          go_ret
          exact ⟨rfl, by have := hJ7; rw [HE.out] at this; rw [lstP]; simpa [List.append_assoc] using this, (KeepPt.more hK6 (grow_drew (grow_refl _ none))).trans hk7⟩
        · have hle : ¬ ((q.length : Int) + 1 ≤ 32) := by omega
          have hnx : N (q ++ [true]) ≠ none → False := fun hn => by
            cases hz : N (q ++ [true]) with
            | none => exact absurd hz hn
            | some d => have := hlen _ _ hz; simp at this; omega
          have A := ih (q ++ [true]) (addrP q : Int) ((q.length : Int) + 1) (pre2 ++ lstP (ownO M V) f (q ++ [false])) rest W5.drew (by simp; omega) (by simp) (fun hn => (hnx hn).elim) (by rw [List.append_assoc]; exact HL.out) (hJ.new hJ5 (grow_drew (grow_refl _ _)))
          clear T5 hnx
          gi_wp2_with (fail)
          refine wpIn_wide.2 ?_
          go_region_held3 (fun X => X.cell? ⟨b, 1, none⟩ = some (ptrN (N (q ++ [true]))) ∧ X.cell? ⟨W.heap.size, 0, none⟩ = some (.int .u32 (addrP q : Int)) ∧ X.cell? ⟨W.heap.size, 1, none⟩ = some (.int .i64 ((q.length : Int) + 1))) (first | exact ⟨k1', u0, u1⟩ | trivial) (first
            | (go_at_call 22; (with_reducible refine A.mono ?_); rintro e W7 ⟨rfl, hJ7, hk7⟩; have v0 := obj_cell (hk7 _ _ hB5 ⟨_, _, rfl⟩) 0; have v1 := obj_cell (hk7 _ _ hB5 ⟨_, _, rfl⟩) 1; obtain ⟨M7, V7, many7, T7, _⟩ := hR _ _ hJ7; obtain ⟨_, k1', _, _⟩ := (T7.blk q b hN).cells))
          gi_wp2_with (fail)
          go_ret
          exact ⟨rfl, by have := hJ7; rw [HE.out] at this; rw [lstP]; simpa [List.append_assoc] using this, (KeepPt.more hK5 (grow_drew (grow_refl _ none))).trans hk7⟩
      | false =>
        have hh : hereP (ownO M V) q = [] := by unfold hereP ownO; rw [hMq]; rfl
        rw [hh, List.nil_append, List.append_assoc] at hL
        have hm : M' q = false := by rw [hM q (all_mark hL hMq), hMq]
        rw [hm] at k2
        clear k0 k1 k3 T1 T
        unfold ptrN
        simp only [Option.map_some]
        refine (callsIn_wide (n := 0)).1 (callsIn_of_wp Try.func22 rfl trivial ?_ rfl)
        simp only [Try.ntmps22, List.size_toArray, List.length_cons, List.length_nil, Nat.reduceAdd, Nat.reduceSub, Array.replicate_succ, Array.replicate_zero, List.push_toArray, List.append_toArray, List.nil_append, List.cons_append]
        gi_wp2_with (fail)
        refine ⟨fun _ h => (by cases h), ?_⟩
        obtain ⟨pre2, hpre2⟩ : ∃ p, p = pre := ⟨_, rfl⟩
        have HL : Hid (allP (ownO M V) = pre2 ++ (lstP (ownO M V) f (q ++ [false]) ++ (lstP (ownO M V) f (q ++ [true]) ++ rest))) := Lib.hid (by rw [hpre2]; exact hL)
        have HE : Hid (pre2 = pre ++ hereP (ownO M V) q) := Lib.hid (by rw [hpre2, hh, List.append_nil])
        rw [← hpre2] at hJ1
        clear hpre2
        have hB2 := hB1
        have hJ2 := hJ1
        have hK2 := hK1
        have d0 := b0
        have d1 := b1
        have df := obj_frozen hB1 1
        generalize W.alloc (.cells #[.int .u32 (addrP q : Int), .int .i64 (q.length : Int)] 25) = W2 at *
        gi_wp2_with (fail)
        have hJ3 := hJ.setP hJ2 hBW.out hB2 1 (.int .i64 ((q.length : Int) + 1))
        have hB3 := obj_setCell hB2 1 (.int .i64 ((q.length : Int) + 1))
        have g4 := World.grownBy_alloc (W2.setCell ⟨W.heap.size, 1, none⟩ (.int .i64 ((q.length : Int) + 1))) (.cells #[.int .u32 (addrP q : Int), .int .i64 ((q.length : Int) + 1)] 25) none
        have hJ4 := hJ.new hJ3 g4
        have hB4 := obj_alloc (o' := .cells #[.int .u32 (addrP q : Int), .int .i64 ((q.length : Int) + 1)] 25) hB3
        have hC4 := obj_new (W2.setCell ⟨W.heap.size, 1, none⟩ (.int .i64 ((q.length : Int) + 1))) (.cells #[.int .u32 (addrP q : Int), .int .i64 ((q.length : Int) + 1)] 25)
        have hK4 := (KeepPt.set hK2 (Nat.le_refl _) 1 (.int .i64 ((q.length : Int) + 1))).more g4
        have ez : (W2.setCell ⟨W.heap.size, 1, none⟩ (.int .i64 ((q.length : Int) + 1))).heap.size = W2.heap.size := by simp [World.setCell]
        rw [ez] at hC4
        clear hJ3 hB3 g4 hK2 hB2 hJ2 d0 d1 df ez hJ1 hK1 hB1 b0 b1 hL hh hm k2 hM h0
        simp only [List.setIfInBounds_toArray, List.set_cons_succ, List.set_cons_zero] at hB4
        generalize (W2.setCell ⟨W.heap.size, 1, none⟩ (.int .i64 ((q.length : Int) + 1))).alloc (.cells #[.int .u32 (addrP q : Int), .int .i64 ((q.length : Int) + 1)] 25) = W4 at *
        generalize W2.heap.size = C at *
        obtain ⟨M4, V4, many4, T4, _⟩ := hR _ _ hJ4
        have k0 := (T4.blk q b hN).cells.1
        have c0 := obj_cell hC4 0
        have c1 := obj_cell hC4 1
        have A := ih (q ++ [false]) (addrP q : Int) ((q.length : Int) + 1) pre2 (lstP (ownO M V) f (q ++ [true]) ++ rest) W4.drew (by simp; omega) (by simp) (fun hn => by
          have hl : q.length < 32 := by
            cases hz : N (q ++ [false]) with
            | none => exact absurd hz hn
            | some d => have := hlen _ _ hz; simp at this; omega
          rw [(addr_half q hl).2]) HL.out (hJ.new hJ4 (grow_drew (grow_refl _ _)))
        clear T4
        refine wpIn_wide.2 ?_
        go_region_held3 (fun X => X.cell? ⟨b, 0, none⟩ = some (ptrN (N (q ++ [false]))) ∧ X.cell? ⟨C, 0, none⟩ = some (.int .u32 (addrP q : Int)) ∧ X.cell? ⟨C, 1, none⟩ = some (.int .i64 ((q.length : Int) + 1))) (first | exact ⟨k0, c0, c1⟩ | exact ⟨k0', c0', c1'⟩) (first
          | (go_at_call 22; (with_reducible refine A.mono ?_); rintro e W5 ⟨rfl, hJ5, hk5⟩; obtain ⟨M5, V5, many5, T5, _⟩ := hR _ _ hJ5; obtain ⟨k0', k1', _, _⟩ := (T5.blk q b hN).cells; have hC5 := hk5 _ _ hC4 ⟨_, _, rfl⟩; have c0' := obj_cell hC5 0; have c1' := obj_cell hC5 1; have hB5 := hk5 _ _ hB4 ⟨_, _, rfl⟩))
        have u0 := obj_cell hB5 0
        have u1 := obj_cell hB5 1
        have uf := obj_frozen hB5 0
        clear A k0 c0 c1 hC5 c0' c1' k0' hC4 hB4 hJ4
        have hK5 : KeepPt Pt W W5 := (KeepPt.more hK4 (grow_drew (grow_refl _ none))).trans hk5
        clear hK4 hk5
        by_cases hlt : q.length < 32
        · have hle : (q.length : Int) + 1 ≤ 32 := by omega
          obtain ⟨k, hk⟩ : ∃ k, k = 31 - q.length := ⟨_, rfl⟩
          have s1 : IntKind.i64.wrap (32 - ((q.length : Int) + 1)) = (k : Int) := by
            rw [show (32 - ((q.length : Int) + 1) : Int) = (k : Int) from by omega]
            exact IntWalk.i64_in _ (by omega)
          have s2 : (0 : Int) ≤ (k : Int) := by omega
          have s3 : ((k : Int)).toNat = k := by omega
          have s5 : IntKind.u32.wrap (2 ^ min k 32) = 2 ^ k := by
            have hlt2 : (2 : Nat) ^ k < 4294967296 := Nat.lt_of_le_of_lt (Nat.pow_le_pow_right (by omega) (show k ≤ 31 by omega)) (by decide)
            rw [show min k 32 = k from by omega, show ((2 : Int) ^ k) = ((2 ^ k : Nat) : Int) from by simp]
            generalize (2 : Nat) ^ k = c at hlt2 ⊢
            exact IntWalk.u32_in _ (by omega)
          have s4 : bits .or .u32 (addrP q : Int) (IntKind.u32.wrap (2 ^ min k 32)) = (addrP (q ++ [true]) : Int) := by rw [s5, hk]; exact u32_or_pow q hlt
          clear s5
          clear hk
          gi_wp2_with (fail)
          refine wpIn_wide.2 ?_
          go_still_tail 8, (by kernel_rfl)
          change wpList _ _ _ _ _ W5.drew
          go_wp2_with fail
          have hJ6 := hJ.new (hJ.setP hJ5 hBW.out hB5 0 (.int .u32 (addrP (q ++ [true]) : Int))) (grow_drew (grow_refl _ none))
          have hB6 := Blk.drew (Blk.set hB5 0 (.int .u32 (addrP (q ++ [true]) : Int)))
          have hK6 := KeepPt.more (KeepPt.set hK5 (Nat.le_refl _) 0 (.int .u32 (addrP (q ++ [true]) : Int))) (grow_drew (grow_refl _ none))
          clear hK5 hJ5 hB5 T5 u0 u1 uf k1' s1 s2 s3 s4
          generalize (W5.setCell ⟨W.heap.size, 0, none⟩ (.int .u32 (addrP (q ++ [true]) : Int))).drew = W6 at *
          obtain ⟨M6, V6, many6, T6, _⟩ := hR _ _ hJ6
          obtain ⟨_, k1', _, _⟩ := (T6.blk q b hN).cells
          have u0 := Blk.cell hB6 0
          have u1 := Blk.cell hB6 1
          have A := ih (q ++ [true]) (addrP (q ++ [true]) : Int) ((q.length : Int) + 1) (pre2 ++ lstP (ownO M V) f (q ++ [false])) rest W6.drew (by simp; omega) (by simp) (fun _ => rfl) (by rw [List.append_assoc]; exact HL.out) (hJ.new hJ6 (grow_drew (grow_refl _ _)))
          clear T6
          gi_wp2_with (fail)
          refine wpIn_wide.2 ?_
          go_region_held3 (fun X => X.cell? ⟨b, 1, none⟩ = some (ptrN (N (q ++ [true]))) ∧ X.cell? ⟨W.heap.size, 0, none⟩ = some (.int .u32 (addrP (q ++ [true]) : Int)) ∧ X.cell? ⟨W.heap.size, 1, none⟩ = some (.int .i64 ((q.length : Int) + 1))) (first | exact ⟨k1', u0, u1⟩ | trivial) (first
            | (go_at_call 22; (with_reducible refine A.mono ?_); rintro e W7 ⟨rfl, hJ7, hk7⟩; have v0 := Blk.cell (hk7 _ _ hB6 ⟨_, _, rfl⟩) 0; have v1 := Blk.cell (hk7 _ _ hB6 ⟨_, _, rfl⟩) 1; obtain ⟨M7, V7, many7, T7, _⟩ := hR _ _ hJ7; obtain ⟨_, k1', _, _⟩ := (T7.blk q b hN).cells))
          gi_wp2_with (fail)
          go_ret
          exact ⟨rfl, by have := hJ7; rw [HE.out] at this; rw [lstP]; simpa [List.append_assoc] using this, (KeepPt.more hK6 (grow_drew (grow_refl _ none))).trans hk7⟩
        · have hle : ¬ ((q.length : Int) + 1 ≤ 32) := by omega
          have hnx : N (q ++ [true]) ≠ none → False := fun hn => by
            cases hz : N (q ++ [true]) with
            | none => exact absurd hz hn
            | some d => have := hlen _ _ hz; simp at this; omega
          have A := ih (q ++ [true]) (addrP q : Int) ((q.length : Int) + 1) (pre2 ++ lstP (ownO M V) f (q ++ [false])) rest W5.drew (by simp; omega) (by simp) (fun hn => (hnx hn).elim) (by rw [List.append_assoc]; exact HL.out) (hJ.new hJ5 (grow_drew (grow_refl _ _)))
          clear T5 hnx
          gi_wp2_with (fail)
          refine wpIn_wide.2 ?_
          go_region_held3 (fun X => X.cell? ⟨b, 1, none⟩ = some (ptrN (N (q ++ [true]))) ∧ X.cell? ⟨W.heap.size, 0, none⟩ = some (.int .u32 (addrP q : Int)) ∧ X.cell? ⟨W.heap.size, 1, none⟩ = some (.int .i64 ((q.length : Int) + 1))) (first | exact ⟨k1', u0, u1⟩ | trivial) (first
            | (go_at_call 22; (with_reducible refine A.mono ?_); rintro e W7 ⟨rfl, hJ7, hk7⟩; have v0 := obj_cell (hk7 _ _ hB5 ⟨_, _, rfl⟩) 0; have v1 := obj_cell (hk7 _ _ hB5 ⟨_, _, rfl⟩) 1; obtain ⟨M7, V7, many7, T7, _⟩ := hR _ _ hJ7; obtain ⟨_, k1', _, _⟩ := (T7.blk q b hN).cells))
          gi_wp2_with (fail)
          go_ret
          exact ⟨rfl, by have := hJ7; rw [HE.out] at this; rw [lstP]; simpa [List.append_assoc] using this, (KeepPt.more hK5 (grow_drew (grow_refl _ none))).trans hk7⟩


end Go.Proofs.Ytbkgfpebffmffaa
