/- A table of prefixes: at and Set. -/
import Derived.Test.YtbkgfpebffmffaaPathsCode
namespace Go.Proofs.Ytbkgfpebffmffaa
open Go.RowKit
set_option linter.unusedVariables false

/-- A node, or a table. -/
def IsN (o : Obj) : Prop := ∃ cs f, o = .cells cs 57 f ∨ o = .cells cs 55 f
/-- What a table's functions leave as it was: whatever lay below B0, and whatever is no node and no table. -/
structure GT (B0 : Nat) (w w' : World) : Prop where
  os : w'.os = w.os
  tape : w'.tape = w.tape
  output : w'.output = w.output
  size : w.heap.size ≤ w'.heap.size
  low : ∀ k, k < w.heap.size → k < B0 → w'.heap[k]? = w.heap[k]?
  keep : ∀ (k : Nat) (o : Obj), w.heap[k]? = some o → ¬ IsN o → w'.heap[k]? = some o
theorem GT.refl (B0 : Nat) (w : World) : GT B0 w w := ⟨rfl, rfl, rfl, Nat.le_refl _, fun _ _ _ => rfl, fun _ _ h _ => h⟩
theorem GT.trans {B0 : Nat} {a b c : World} (h : GT B0 a b) (k : GT B0 b c) : GT B0 a c :=
  ⟨k.os.trans h.os, k.tape.trans h.tape, k.output.trans h.output, Nat.le_trans h.size k.size, fun i h1 h2 => (k.low i (Nat.lt_of_lt_of_le h1 h.size) h2).trans (h.low i h1 h2), fun i o h1 h2 => k.keep i o (h.keep i o h1 h2) h2⟩
theorem GT.new {B0 : Nat} {a b : World} (g : a.grownBy b none) : GT B0 a b := ⟨g.os, g.tape, g.output, g.size, fun i h1 _ => g.block i h1 (by simp), fun i o h1 _ => (g.block i (lt_of_obj h1) (by simp)).trans h1⟩
theorem GT.more {B0 : Nat} {a b c : World} (h : GT B0 a b) (g : b.grownBy c none) : GT B0 a c := h.trans (GT.new g)
theorem GT.grown {B0 : Nat} {a b : World} {k : Nat} {o : Obj} (g : a.grownBy b (some k)) (hB : B0 ≤ k) (ho : a.heap[k]? = some o) (hn : IsN o) : GT B0 a b :=
  ⟨g.os, g.tape, g.output, g.size, fun i h1 h2 => g.block i h1 (by simp; omega), fun i o' h1 h2 => (g.block i (lt_of_obj h1) (by
    intro e
    obtain rfl := Option.some.inj e
    rw [ho] at h1
    exact h2 (Option.some.inj h1 ▸ hn))).trans h1⟩
theorem GT.below {B0 : Nat} {a b : World} (h : GT B0 a b) (hB : B0 ≤ a.heap.size) : Below B0 a b := ⟨h.os, h.tape, h.output, h.size, fun i hi => h.low i (by omega) hi⟩
theorem NodeIn.isN {w : World} {tb : Nat} {N : Pf → Option Nat} {M : Pf → Bool} {V : Pf → Int} {many : Nat} {p : Pf} {b : Nat} (h : NodeIn w tb N M V many p b) : ∃ o, w.heap[b]? = some o ∧ IsN o := by
  obtain ⟨cs, t, h1, h2⟩ := h.obj
  rcases h2 with rfl | rfl
  · exact ⟨_, h1, _, _, Or.inl rfl⟩
  · exact ⟨_, h1, _, _, Or.inr rfl⟩
theorem Tree.gset {w : World} {tb B0 : Nat} {N : Pf → Option Nat} {M : Pf → Bool} {V : Pf → Int} {many : Nat} (T : Tree w tb N M V many) (hl : ∀ p b, N p = some b → B0 ≤ b) {p : Pf} {b : Nat} (hb : N p = some b) (i : Nat) (v : Value) : GT B0 w (w.setCell ⟨b, i, none⟩ v) := by
  obtain ⟨o, h1, h2⟩ := (T.blk p b hb).isN
  exact GT.grown (grow_setCell (grow_refl w (some b)) i v) (hl p b hb) h1 h2
/-- The table's memory, for whose the prefixes are. -/
def TB (B0 : Nat) (w : World) (tb : Nat) (O : Own) : Prop := ∃ N M V, Tree w tb N M V (allP O).length ∧ (∀ p b, N p = some b → B0 ≤ b) ∧ ownO M V = O ∧ (allP O).length ≤ 64
theorem TB.kept {B0 : Nat} {w w' : World} {tb : Nat} {O : Own} {r : Option Nat} (h : TB B0 w tb O) (g : w.grownBy w' r) (hr : ∀ k, r = some k → ∀ o, w.heap[k]? = some o → ¬ IsN o) : TB B0 w' tb O := by
  obtain ⟨N, M, V, T, hl, hO⟩ := h
  exact ⟨N, M, V, T.kept g (fun p b hb e => by
    obtain ⟨o, h1, h2⟩ := (T.blk p b hb).isN
    exact hr b e.symm o h1 h2), hl, hO⟩
theorem TB.new {B0 : Nat} {w w' : World} {tb : Nat} {O : Own} (h : TB B0 w tb O) (g : w.grownBy w' none) : TB B0 w' tb O := h.kept g (fun k e => by cases e)
theorem TB.lt {B0 : Nat} {w : World} {tb : Nat} {O : Own} (h : TB B0 w tb O) : B0 ≤ tb ∧ tb < w.heap.size := by
  obtain ⟨N, M, V, T, hl, hO⟩ := h
  exact ⟨hl _ _ T.root, (T.blk _ _ T.root).lt⟩

theorem ownO_updV (M : Pf → Bool) (V : Pf → Int) (p : Pf) (v : Int) (h : M p = false) : ownO M (updV V p v) = ownO M V := by
  funext q
  unfold ownO updV
  by_cases e : q = p
  · subst e; rw [h]; rfl
  · rw [if_neg e]
theorem bitN_val (a k : Nat) : bitN (a / 2 ^ k % 2 == 1) = a / 2 ^ k % 2 := bitN_beq _

set_option maxHeartbeats 4000000 in
theorem code_ptat (w : World) (B0 tb : Nat) (N : Pf → Option Nat) (M : Pf → Bool) (V : Pf → Int) (many : Nat) (T : Tree w tb N M V many) (hlow : ∀ p b, N p = some b → B0 ≤ b) (a n : Nat) (ha : a < 4294967296) (hn : n ≤ 32) :
    Calls Try.prog 19 #[.pointer (some ⟨tb, 0, none⟩), .agg #[.int .u32 (a : Int), .int .i64 (n : Int)]] w fun e w' =>
      ∃ b N' V', e = .returned (.pointer (some ⟨b, 0, none⟩)) ∧ N' (bitsA a n) = some b ∧ Tree w' tb N' M V' many ∧ ownO M V' = ownO M V ∧ (∀ p b, N' p = some b → B0 ≤ b) ∧ GT B0 w w' := by
  have hB0 : B0 ≤ w.heap.size := Nat.le_of_lt (Nat.lt_of_le_of_lt (hlow _ _ T.root) (T.blk _ _ T.root).lt)
  go_enter Try.func19, Try.ntmps19
  go_wp2_with fail
  go_loopw [5, 13] (fun v5 v13 wr => ∃ (i b : Nat) (N' : Pf → Option Nat) (V' : Pf → Int), i ≤ n ∧ v13 = .int .i64 i ∧ v5 = .pointer (some ⟨b, 0, none⟩) ∧ N' (bitsA a i) = some b ∧ Tree wr tb N' M V' many ∧ ownO M V' = ownO M V ∧ (∀ p b, N' p = some b → B0 ≤ b) ∧ GT B0 w wr ∧ Blk wr w.heap.size 25 [.int .u32 (a : Int), .int .i64 (n : Int)]) (fun _ v13 _ => n - (intOf v13).toNat)
  case atStart => exact ⟨0, tb, N, V, by omega, rfl, rfl, T.root, T.new (World.grownBy_alloc _ _ none), rfl, hlow, GT.new (World.grownBy_alloc _ _ none), Blk.new _ _ _⟩
  case round =>
    obtain ⟨i, b, N', V', hi, rfl, rfl, hb, T', hO, hl, hg, hP⟩ := hrel
    by_cases hlt : i < n
    · obtain ⟨k, hkk⟩ : ∃ k, k = 31 - i := ⟨_, rfl⟩
      have s1 : IntKind.i64.wrap (31 - (i : Int)) = (k : Int) := by
        rw [show (31 - (i : Int) : Int) = (k : Int) from by omega]
        exact IntWalk.i64_in _ (by omega)
      have s2 : (0 : Int) ≤ (k : Int) := by omega
      have s3 : ((k : Int)).toNat = k := by omega
      have hk32 : min k 32 = k := by omega
      have s4 := u32_bit1 a k ha
      have hk := bitsA_succ a i
      rw [← hkk] at hk
      obtain ⟨kc0, kc1, _, _⟩ := (T'.blk _ b hb).cells
      have kf0 := (T'.blk _ b hb).frozen 0
      have kf1 := (T'.blk _ b hb).frozen 1
      have p0 := hP.cell 0
      have p1 := hP.cell 1
      have hbl := (T'.blk _ b hb).lt
      have HT := Lib.hid T'
      have HO := Lib.hid hO
      have HL := Lib.hid hl
      have HG := Lib.hid hg
      have HP := Lib.hid hP
      have HPL := Lib.hid hP.lt
      have HI : Hid (i < 32) := Lib.hid (by omega)
      clear T' hO hl hg hP hkk
      have HC : ∀ c : Bool, bitsA a (i + 1) = bitsA a i ++ [c] → N' (bitsA a i ++ [c]) = none →
          Hid (∃ (b2 : Nat) (N2 : Pf → Option Nat) (V2 : Pf → Int), b2 = wr.heap.size ∧ N2 (bitsA a (i + 1)) = some b2 ∧ Tree ((wr.setCell ⟨b, bitN c, none⟩ (.pointer (some ⟨wr.heap.size, 0, none⟩))).alloc (.cells #[.pointer none, .pointer none, .bool false, .int .i64 0] 55)) tb N2 M V2 many ∧ ownO M V2 = ownO M V ∧ (∀ p b, N2 p = some b → B0 ≤ b) ∧ GT B0 w ((wr.setCell ⟨b, bitN c, none⟩ (.pointer (some ⟨wr.heap.size, 0, none⟩))).alloc (.cells #[.pointer none, .pointer none, .bool false, .int .i64 0] 55)) ∧
            Blk ((wr.setCell ⟨b, bitN c, none⟩ (.pointer (some ⟨wr.heap.size, 0, none⟩))).alloc (.cells #[.pointer none, .pointer none, .bool false, .int .i64 0] 55)) w.heap.size 25 [.int .u32 (a : Int), .int .i64 (n : Int)]) := fun c hc hnone => by
        rw [← World.setCell_alloc_past _ _ _ _ hbl]
        have hl32 : (bitsA a i).length < 32 := by rw [bitsA_length]; exact HI.out
        have hne : bitsA a i ++ [c] ≠ bitsA a i := fun e => by have := congrArg List.length e; simp at this
        have hsz : B0 ≤ wr.heap.size := Nat.le_trans hB0 HG.out.size
        have g1 := World.grownBy_alloc wr (.cells #[.pointer none, .pointer none, .bool false, .int .i64 0] 55) none
        have g2 := grow_setCell (grow_refl (wr.alloc (.cells #[.pointer none, .pointer none, .bool false, .int .i64 0] 55)) (some b)) (bitN c) (.pointer (some ⟨wr.heap.size, 0, none⟩))
        refine Lib.hid ⟨wr.heap.size, updN N' (bitsA a i ++ [c]) wr.heap.size, updV V' (bitsA a i ++ [c]) 0, rfl, ?_, HT.out.setKid _ b hb c hnone hl32, ?_, ?_, ?_, ?_⟩
        · rw [hc]; unfold updN; rw [if_pos rfl]
        · rw [ownO_updV _ _ _ _ (by
            cases hm : M (bitsA a i ++ [c]) with
            | false => rfl
            | true => exact absurd hnone (HT.out.mark _ hm)), HO.out]
        · intro p d hp
          unfold updN at hp
          split at hp
          · have := Option.some.inj hp; omega
          · exact HL.out p d hp
        · exact (HG.out.more g1).trans (Tree.gset (HT.out.new g1) HL.out hb _ _)
        · exact (HP.out.kept g1 nofun).kept g2 (by
            intro e
            have e := Option.some.inj e
            have h1 := HP.out
            obtain ⟨cs, t, h2, h3⟩ := (HT.out.blk _ b hb).obj
            rw [← e, h1] at h2
            injection h2 with h2
            injection h2 with _ h2 _
            rcases h3 with h3 | h3 <;> rw [h3] at h2 <;> exact absurd h2 (by decide))
      rcases Nat.mod_two_eq_zero_or_one (a / 2 ^ k) with hc | hc
      · rw [hc] at s4 hk
        have s5 := s4
        rw [show (2 : Int) ^ k = 2 ^ min k 32 from by rw [hk32]] at s5
        cases hN2 : N' (bitsA a i ++ [false]) with
        | none =>
          have H := HC false hk hN2
          rw [hN2] at kc0
          unfold ptrN at kc0
          simp only [Option.map_none] at kc0
          clear HC kc1 kf1 hk
          go_wp2_with fail
          go_roundw
          case rel => obtain ⟨b2, N2, V2, rfl, x1, x2, x3, x4, x5, x6⟩ := H.out; exact ⟨i + 1, _, N2, V2, by omega, by go_num, rfl, x1, x2, x3, x4, x5, x6⟩
          case measure => simp [intOf]; omega
        | some b2 =>
          rw [hN2] at kc0
          unfold ptrN at kc0
          simp only [Option.map_some] at kc0
          have hk0 := Lib.hid hk
          clear HC kc1 kf1 hk
          go_wp2_with fail
          go_roundw
          case rel => exact ⟨i + 1, b2, N', V', by omega, by go_num, rfl, by rw [hk0.out]; exact hN2, HT.out, HO.out, HL.out, HG.out, HP.out⟩
          case measure => simp [intOf]; omega
      · rw [hc] at s4 hk
        have s5 := s4
        rw [show (2 : Int) ^ k = 2 ^ min k 32 from by rw [hk32]] at s5
        cases hN2 : N' (bitsA a i ++ [true]) with
        | none =>
          have H := HC true hk hN2
          rw [hN2] at kc1
          unfold ptrN at kc1
          simp only [Option.map_none] at kc1
          clear HC kc0 kf0 hk
          go_wp2_with fail
          go_roundw
          case rel => obtain ⟨b2, N2, V2, rfl, x1, x2, x3, x4, x5, x6⟩ := H.out; exact ⟨i + 1, _, N2, V2, by omega, by go_num, rfl, x1, x2, x3, x4, x5, x6⟩
          case measure => simp [intOf]; omega
        | some b2 =>
          rw [hN2] at kc1
          unfold ptrN at kc1
          simp only [Option.map_some] at kc1
          have hk0 := Lib.hid hk
          clear HC kc0 kf0 hk
          go_wp2_with fail
          go_roundw
          case rel => exact ⟨i + 1, b2, N', V', by omega, by go_num, rfl, by rw [hk0.out]; exact hN2, HT.out, HO.out, HL.out, HG.out, HP.out⟩
          case measure => simp [intOf]; omega
    · obtain rfl : i = n := by omega
      go_wp2_with fail
      go_ret
      exact ⟨b, N', V', rfl, hb, T', hO, hl, hg⟩

end Go.Proofs.Ytbkgfpebffmffaa
