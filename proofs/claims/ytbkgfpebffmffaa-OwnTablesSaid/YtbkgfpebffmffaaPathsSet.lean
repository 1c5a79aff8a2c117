/- A table of prefixes: Set. -/
import Derived.Test.YtbkgfpebffmffaaPathsTab
import Derived.Test.YtbkgfpebffmffaaRestNat
namespace Go.Proofs.Ytbkgfpebffmffaa
open Go.RowKit
set_option linter.unusedVariables false

/-- What Set answers, and whose the prefixes are behind it. -/
def setTo (O : Own) (a : Nat) (y peer : Int) : Int × Own :=
  if y < 0 ∨ 32 < y ∨ peer < 0 ∨ 8 ≤ peer then (1, O)
  else if a * 2 ^ y.toNat % 4294967296 ≠ 0 then (5, O)
  else match O (bitsA a y.toNat) with
    | some _ => (0, setO O (bitsA a y.toNat) peer)
    | none => if (allP O).length = 64 then (9, O) else (0, setO O (bitsA a y.toNat) peer)
theorem ownO_set (M : Pf → Bool) (V : Pf → Int) (q : Pf) (v : Int) : ownO (updM M q true) (updV V q v) = setO (ownO M V) q v := by
  funext p
  unfold ownO updM updV setO
  by_cases e : p = q
  · simp [e]
  · simp [e]
theorem u32_shl0 (a n : Nat) (hn : n ≤ 32) : IntKind.u32.wrap ((a : Int) * 2 ^ min n 32) = ((a * 2 ^ n % 4294967296 : Nat) : Int) := by
  rw [show min n 32 = n from by omega, IntKind.wrap_u32]
  simp

set_option maxHeartbeats 4000000 in
theorem code_ptset (w : World) (B0 tb : Nat) (O : Own) (h : TB B0 w tb O) (a : Nat) (ha : a < 4294967296) (y peer : Int) (hy : (Lit.int .i64 y).wf = true) (hp : (Lit.int .i64 peer).wf = true) :
    Calls Try.prog 8 #[.pointer (some ⟨tb, 0, none⟩), .agg #[.int .u32 (a : Int), .int .i64 y], .int .i64 peer] w fun e w' => e = .returned (.int .i64 (setTo O a y peer).1) ∧ TB B0 w' tb (setTo O a y peer).2 ∧ GT B0 w w' := by
  obtain ⟨hy0, hy1⟩ := wf_i64_of hy
  obtain ⟨hp0, hp1⟩ := wf_i64_of hp
  have gb := World.grownBy_alloc w (.cells #[.int .u32 (a : Int), .int .i64 y] 25) none
  have hb := Blk.new w 25 [.int .u32 (a : Int), .int .i64 y]
  have b0 := hb.cell 0
  have b1 := hb.cell 1
  by_cases hA : y < 0 ∨ 32 < y ∨ peer < 0 ∨ 8 ≤ peer
  · have hS : setTo O a y peer = (1, O) := if_pos hA
    rw [hS]
    have HT := Lib.hid (h.new gb)
    have HG := Lib.hid (GT.new (B0 := B0) gb)
    have e1 : (((decide (y < 0) || decide (32 < y)) || decide (peer < 0)) || decide (8 ≤ peer)) = true := by simp; omega
    clear h gb hS hy hp
    by_cases h1 : y < 0
    · go_enter Try.func8, Try.ntmps8
      go_wp2_with fail
      go_ret
      exact ⟨rfl, HT.out, HG.out⟩
    · by_cases h2 : 32 < y
      · go_enter Try.func8, Try.ntmps8
        go_wp2_with fail
        go_ret
        exact ⟨rfl, HT.out, HG.out⟩
      · by_cases h3 : peer < 0
        · go_enter Try.func8, Try.ntmps8
          go_wp2_with fail
          go_ret
          exact ⟨rfl, HT.out, HG.out⟩
        · have h4 : 8 ≤ peer := by omega
          go_enter Try.func8, Try.ntmps8
          go_wp2_with fail
          go_ret
          exact ⟨rfl, HT.out, HG.out⟩
  · obtain ⟨n, rfl, hn⟩ : ∃ n : Nat, y = (n : Int) ∧ n ≤ 32 := ⟨y.toNat, by omega, by omega⟩
    have v0 : ¬ ((n : Int) < 0) := by omega
    have v1 : ¬ (32 < (n : Int)) := by omega
    have v2 : ¬ (peer < 0) := by omega
    have v3 : ¬ (8 ≤ peer) := by omega
    have v4 : (0 : Int) ≤ (n : Int) := by omega
    have v5 : ((n : Int)).toNat = n := by omega
    have hS : setTo O a (n : Int) peer = if a * 2 ^ n % 4294967296 ≠ 0 then ((5 : Int), O) else match O (bitsA a n) with
      | some _ => ((0 : Int), setO O (bitsA a n) peer)
      | none => if (allP O).length = 64 then (9, O) else (0, setO O (bitsA a n) peer) := if_neg hA
    rw [hS]
    clear hS hA hy hy0 hy1
    by_cases h0 : a * 2 ^ n % 4294967296 = 0
    · rw [if_neg (by simpa using h0)]
      have hz : ((a : Int) * 2 ^ n % 4294967296 != 0) = false := by
        rw [show (a : Int) * 2 ^ n % 4294967296 = ((a * 2 ^ n % 4294967296 : Nat) : Int) from by simp, h0]
        rfl
      obtain ⟨N, M, V, T, hl, hO, hmx⟩ := h
      have A := code_ptat (w.alloc (.cells #[.int .u32 (a : Int), .int .i64 (n : Int)] 25)) B0 tb N M V _ (T.new gb) hl a n ha hn
      have hql : (bitsA a n).length ≤ 32 := by rw [bitsA_length]; exact hn
      have HGB := Lib.hid (GT.new (B0 := B0) gb)
      clear T gb h0
      generalize hq : bitsA a n = q at *
      clear hq
      have hql2 : q.length ≤ 32 := hql
      cases hOq : O q with
      | some v =>
        simp only
        go_enter Try.func8, Try.ntmps8
        go_wp2_with fail
        (with_reducible refine A.mono ?_)
        rintro e w1 ⟨b, N', V', rfl, hb1, T1, hO1, hl1, hg1⟩
        have hMq : M q = true := by
          cases hm : M q with
          | true => rfl
          | false => rw [← hO] at hOq; unfold ownO at hOq; rw [hm] at hOq; cases hOq
        obtain ⟨_, _, k2, k3⟩ := (T1.blk _ b hb1).cells
        have f2 := (T1.blk _ b hb1).frozen 2
        rw [hMq] at k2
        have T2 := T1.setMark q b hb1 true
        obtain ⟨_, _, _, m3⟩ := (T2.blk _ b hb1).cells
        have f3 := (T2.blk _ b hb1).frozen 3
        have g2 := Tree.gset T1 hl1 hb1 2 (.bool true)
        have T3 := T2.setOwner q b hb1 peer ⟨by omega, by omega⟩
        have g3 := Tree.gset T2 hl1 hb1 3 (.int .i64 peer)
        have HF : Hid (TB B0 ((w1.setCell ⟨b, 2, none⟩ (.bool true)).setCell ⟨b, 3, none⟩ (.int .i64 peer)) tb (setO O q peer) ∧ GT B0 w ((w1.setCell ⟨b, 2, none⟩ (.bool true)).setCell ⟨b, 3, none⟩ (.int .i64 peer))) :=
          Lib.hid ⟨⟨N', _, _, by rw [all_old O q peer v hOq]; exact T3, hl1, by rw [ownO_set, hO1, hO], by rw [all_old O q peer v hOq]; exact hmx⟩, ((HGB.out.trans hg1).trans g2).trans g3⟩
        clear A T1 hO1 hl1 hg1 T2 T3 g2 g3 hO hOq hl
        go_wp2_with fail
        go_ret
        exact ⟨rfl, HF.out.1, HF.out.2⟩
      | none =>
        have hMq : M q = false := by
          cases hm : M q with
          | false => rfl
          | true => rw [← hO] at hOq; unfold ownO at hOq; rw [hm] at hOq; cases hOq
        by_cases h64 : (allP O).length = 64
        · simp only [if_pos h64]
          go_enter Try.func8, Try.ntmps8
          go_wp2_with fail
          (with_reducible refine A.mono ?_)
          rintro e w1 ⟨b, N', V', rfl, hb1, T1, hO1, hl1, hg1⟩
          obtain ⟨_, _, k2, k3⟩ := (T1.blk _ b hb1).cells
          have hm := T1.many.1
          rw [h64] at hm
          rw [hMq] at k2
          have HF : Hid (TB B0 w1 tb O ∧ GT B0 w w1) := Lib.hid ⟨⟨N', M, V', T1, hl1, by rw [hO1, hO], hmx⟩, HGB.out.trans hg1⟩
          clear A T1 hO1 hl1 hg1 hO hOq hl
          go_wp2_with fail
          go_ret
          exact ⟨rfl, HF.out.1, HF.out.2⟩
        · simp only [if_neg h64]
          go_enter Try.func8, Try.ntmps8
          go_wp2_with fail
          (with_reducible refine A.mono ?_)
          rintro e w1 ⟨b, N', V', rfl, hb1, T1, hO1, hl1, hg1⟩
          obtain ⟨hm, hmf⟩ := T1.many
          have h64' : (((allP O).length : Int) == 64) = false := by rw [beq_eq_false_iff_ne]; omega
          obtain ⟨_, _, k2, _⟩ := (T1.blk _ b hb1).cells
          rw [hMq] at k2
          have T1' := T1.setMany ((allP O).length + 1)
          have g1' := Tree.gset T1 hl1 T1.root 4 (.int .i64 (((allP O).length + 1 : Nat) : Int))
          have e1 : (((allP O).length + 1 : Nat) : Int) = ((allP O).length : Int) + 1 := rfl
          rw [e1] at T1' g1'
          obtain ⟨_, _, k2', k3'⟩ := (T1'.blk _ b hb1).cells
          rw [hMq] at k2'
          have f2 := (T1'.blk _ b hb1).frozen 2
          have T2 := T1'.setMark q b hb1 true
          obtain ⟨_, _, _, m3⟩ := (T2.blk _ b hb1).cells
          have f3 := (T2.blk _ b hb1).frozen 3
          have g2 := Tree.gset T1' hl1 hb1 2 (.bool true)
          have T3 := T2.setOwner q b hb1 peer ⟨by omega, by omega⟩
          have g3 := Tree.gset T2 hl1 hb1 3 (.int .i64 peer)
          have HF : Hid (TB B0 (((w1.setCell ⟨tb, 4, none⟩ (.int .i64 (((allP O).length : Int) + 1))).setCell ⟨b, 2, none⟩ (.bool true)).setCell ⟨b, 3, none⟩ (.int .i64 peer)) tb (setO O q peer) ∧ GT B0 w (((w1.setCell ⟨tb, 4, none⟩ (.int .i64 (((allP O).length : Int) + 1))).setCell ⟨b, 2, none⟩ (.bool true)).setCell ⟨b, 3, none⟩ (.int .i64 peer))) :=
            Lib.hid ⟨⟨N', _, _, by rw [all_new O q peer hql2 hOq]; exact T3, hl1, by rw [ownO_set, hO1, hO], by rw [all_new O q peer hql2 hOq]; omega⟩, (((HGB.out.trans hg1).trans g1').trans g2).trans g3⟩
          clear A T1 hO1 hl1 hg1 T2 T3 g2 g3 hO hOq hl T1' g1' e1
          have hL0 : (0 : Int) ≤ ((allP O).length : Int) := by omega
          have hL1 : ((allP O).length : Int) ≤ 64 := by omega
          clear hmx h64
          generalize ((allP O).length : Int) = L at *
          go_wp2_with fail
          go_ret
          exact ⟨rfl, HF.out.1, HF.out.2⟩
    · rw [if_pos h0]
      have hz : ((a : Int) * 2 ^ n % 4294967296 != 0) = true := by
        rw [show (a : Int) * 2 ^ n % 4294967296 = ((a * 2 ^ n % 4294967296 : Nat) : Int) from by simp]
        generalize a * 2 ^ n % 4294967296 = z at h0
        rw [bne_iff_ne]
        omega
      have HT := Lib.hid (h.new gb)
      have HG := Lib.hid (GT.new (B0 := B0) gb)
      clear h gb
      go_enter Try.func8, Try.ntmps8
      go_wp2_with fail
      go_ret
      exact ⟨rfl, HT.out, HG.out⟩

end Go.Proofs.Ytbkgfpebffmffaa
