/-
  Several texts of this claim in one: EqStr, Lift, OwnTablesLaw.
-/
import Derived.Test.YtbkgfpebffmffaaKdfDerive
import Derived.Test.YtbkgfpebffmffaaZeros
import Derived.Test.YtbkgfpebffmffaaPathsDropsLaw
namespace Go.Proofs.Ytbkgfpebffmffaa
open Go.RowKit
set_option linter.unusedVariables false

set_option maxHeartbeats 1000000 in
theorem code_eqs (w : World) (g1 g2 n c1 c2 : Nat) (ls : List (List UInt8)) (hn : ls.length = n) (hb : n ≤ 9223372036854775807)
    (h1 : ∀ i (hi : i < ls.length), w.cell? ⟨g1, i, none⟩ = some (S ls[i])) (h2 : ∀ i (hi : i < ls.length), w.cell? ⟨g2, i, none⟩ = some (S ls[i])) :
    Calls Try.prog 16 #[.slice (some ⟨g1, 0, none⟩) n c1, .slice (some ⟨g2, 0, none⟩) n c2] w fun e w' => e = .returned (.bool true) ∧ w = w' := by
  have H1 := Lib.hid h1
  have H2 := Lib.hid h2
  have HN := Lib.hid hn
  clear h1 h2 hn
  go_enter Try.func16, Try.ntmps16
  go_wp2_with fail
  go_loop [14] (fun v14 => ∃ i : Nat, i ≤ n ∧ v14 = .int .i64 i) (fun v14 => n - (intOf v14).toNat)
  case atStart => exact ⟨0, by omega, rfl⟩
  case round =>
    obtain ⟨i, hi, rfl⟩ := hrel
    by_cases hlt : i < n
    · have hil : i < ls.length := by rw [HN.out]; exact hlt
      have e1 := H1.out i hil
      have e2 := H2.out i hil
      generalize ls[i] = l at *
      unfold S at e1 e2
      have i1 : (i : Int) < (n : Int) := by omega
      go_wp2_with fail
      go_round
      case rel => exact ⟨i + 1, by omega, by go_num⟩
      case measure => simp [intOf]; omega
    · obtain rfl : i = n := by omega
      go_wp2_with fail
      go_ret
      exact ⟨rfl, rfl⟩

end Go.Proofs.Ytbkgfpebffmffaa

namespace Go.Proofs.Ytbkgfpebffmffaa
open Go.RowKit
set_option linter.unusedVariables false

def GrownH (w : World) (v : Value) (e : Ending) (w' : World) : Prop := e = .returned v ∧ Hid (w.grownBy w' none)
theorem lift (w : World) {k : FuncId} {args : Array Value} {v : Value} (A : ∀ W : World, Calls Try.prog k args W (Grown v W)) (W : World) (h : Hid (w.grownBy W none)) : Calls Try.prog k args W (GrownH w v) :=
  (A W).mono fun e w' ⟨h1, h2⟩ => ⟨h1, Lib.hid (grow_trans h.out h2)⟩

end Go.Proofs.Ytbkgfpebffmffaa

namespace Go.Proofs.Ytbkgfpebffmffaa
open Go.RowKit
set_option linter.unusedVariables false

/-- A block of so many cells of a kind. -/
def Room (w : World) (g : Nat) (t : TypeId) (n : Nat) : Prop := ∃ cs : List Value, cs.length = n ∧ Blk w g t cs
theorem Room.set {w : World} {g : Nat} {t : TypeId} {n : Nat} (h : Room w g t n) (i : Nat) (v : Value) : Room (w.setCell ⟨g, i, none⟩ v) g t n := by
  obtain ⟨cs, h1, h2⟩ := h
  exact ⟨cs.set i v, by rw [List.length_set, h1], h2.set i v⟩
theorem Room.has {w : World} {g : Nat} {t : TypeId} {n : Nat} (h : Room w g t n) (i : Nat) (hi : i < n) : ∃ u, w.cell? ⟨g, i, none⟩ = .some u := by
  obtain ⟨cs, h1, h2⟩ := h
  exact ⟨cs[i]'(by omega), by rw [h2.cell, List.getElem?_eq_getElem (by omega)]⟩
theorem Room.frozen {w : World} {g : Nat} {t : TypeId} {n : Nat} (h : Room w g t n) (i : Nat) : w.frozen? ⟨g, i, none⟩ = false := by
  obtain ⟨cs, h1, h2⟩ := h
  exact h2.frozen i
theorem prow_room {w : World} {base : Nat} {ao : Option Addr} {n cap : Nat} {l : List (Pf × Int)} (h : prow w base (.slice ao n cap) l) : (ao = none ∧ l = []) ∨ ∃ g, ao = some ⟨g, 0, none⟩ ∧ base ≤ g ∧ l.length ≤ cap ∧ Room w g 34 (cap * 3) := by
  rcases h.2 with ⟨e, hn⟩ | ⟨g, cap', cur, hv, hbg, hg, hnc, hcm, hcs, htake⟩
  · injection e with e _ _
    exact Or.inl ⟨e, List.eq_nil_of_length_eq_zero hn⟩
  · injection hv with e1 e2 e3
    subst e3
    exact Or.inr ⟨g, e1, hbg, hnc, cur.toList, by simpa using hcs, by unfold Blk; simpa using hg⟩
theorem srow_room {w : World} {base : Nat} {v : Value} {l : List (List UInt8)} (h : srow w base v l) (hl : l ≠ []) : ∃ g cap n, v = .slice (some ⟨g, 0, none⟩) l.length cap ∧ base ≤ g ∧ l.length ≤ n ∧ Room w g 9 n := by
  rcases h.2 with ⟨_, hn⟩ | ⟨g, cap, cur, hv, hbg, hg, hnc, hcm, hcs, htake⟩
  · exact absurd (List.eq_nil_of_length_eq_zero hn) hl
  · exact ⟨g, cap, cap * 1, hv, hbg, by omega, cur.toList, by simpa using hcs, by unfold Blk; simpa using hg⟩
theorem Room.kept {w w' : World} {g : Nat} {t : TypeId} {n : Nat} {r : Option Nat} (h : Room w g t n) (k : w.grownBy w' r) (hr : Option.some g ≠ r) : Room w' g t n := by
  obtain ⟨cs, h1, h2⟩ := h
  exact ⟨cs, h1, h2.kept k hr⟩
theorem Room.lt {w : World} {g : Nat} {t : TypeId} {n : Nat} (h : Room w g t n) : g < w.heap.size := by
  obtain ⟨cs, h1, h2⟩ := h
  exact h2.lt
/-- A slice that was filled with nothing but nought's path: its table lies as it lay. -/
theorem TB.rowed {B0 : Nat} {w w' : World} {tb : Nat} {O : Own} {g n : Nat} (h : TB B0 w tb O) (hr : Room w g 34 n) (k : w.grownBy w' (some g)) : TB B0 w' tb O :=
  h.kept k (fun b e o ho => by
    obtain rfl := Option.some.inj e
    obtain ⟨cs, _, h2⟩ := hr
    unfold Blk at h2
    rw [h2] at ho
    cases ho
    exact not_IsN rfl (by decide) (by decide))

set_option maxRecDepth 20000 in
set_option maxHeartbeats 8000000 in
theorem walk_OwnTables (a0 : Option Addr) (len0 cap0 : Nat) (s1 s2 : ByteArray) (w1 : s1.size ≤ maxLen) (w2 : s2.size ≤ maxLen) (w : World) (r0 : IsRecs stepKs w a0 len0 cap0) (z0 : len0 ≤ 140737488351232) (z1 : s1.size ≤ 140737488351232) (z2 : s2.size ≤ 140737488351232) :
    Calls Try.prog 6 #[.slice a0 len0 cap0, .string s1, .string s2] w fun e w' => e = .returned (.bool true) ∧ Below w.heap.size w w' := by
  obtain ⟨key, rfl, hk⟩ := list_of s1
  obtain ⟨s, rfl, hs⟩ := list_of s2
  rw [← hk] at z1
  rw [← hs] at z2
  clear w1 w2 hk hs
  have A := code_kptable w a0 len0 cap0 r0
  have D3 : ∀ W : World, Calls Try.prog 15 #[.int .i64 2, S key, S s, .int .i64 3] W (DerIs (outM 2 (macM 2 key s) 3) W) := fun W => code_derive W 2 (Or.inr rfl) key s 3 (by omega) (by omega) (by omega) (by omega)
  clear r0 z0 z1 z2
  have hl3 := outM_length 2 (macM 2 key s) 3
  generalize outM 2 (macM 2 key s) 3 = ks at *
  have HL3 := Lib.hid hl3
  clear hl3
  unfold S at *
  go_enter Try.func6, Try.ntmps6
  go_wp2_with fail
  (with_reducible refine A.mono ?_)
  rintro e x1 ⟨tb, O, rfl, hT, hg1⟩
  have H1 := Lib.hid hT
  have G1 := Lib.hid hg1
  have A1 := code_ptall x1 _ tb O hT
  obtain ⟨L, hL⟩ : ∃ L, L = allP O := ⟨_, rfl⟩
  have hl64 : L.length ≤ 64 := by rw [hL]; obtain ⟨_, _, _, _, _, _, h⟩ := hT; exact h
  rw [← hL] at A1
  have HHL := Lib.hid hL
  clear A hT hg1 hL
  go_wp2_with fail
  (with_reducible refine A1.mono ?_)
  rintro e x2 ⟨va, rfl, hrowa, hga⟩
  have H2 := Lib.hid (H1.out.new hga)
  have G2 := Lib.hid (grow_trans G1.out hga)
  have RA := Lib.hid hrowa
  have HWA : Hid (∀ k, va.ownBlock = some k → w.heap.size ≤ k) := Lib.hid (fun k e => Nat.le_trans G1.out.size (prow_own hrowa k e).1)
  have A2 := code_ptall x2 _ tb O H2.out
  rw [← HHL.out] at A2
  clear A1 H1 G1 hrowa hga
  go_wp2_with fail
  (with_reducible refine A2.mono ?_)
  rintro e x3 ⟨vb, rfl, hrowb, hgb⟩
  have H3 := Lib.hid (H2.out.new hgb)
  have G3 := Lib.hid (grow_trans G2.out hgb)
  have RA3 := Lib.hid (RA.out.keptN hgb)
  have RB3 := Lib.hid hrowb
  have HAB : Hid (vb.ownBlock = none ∨ vb.ownBlock ≠ va.ownBlock) := Lib.hid (by
    rcases hb : vb.ownBlock with _ | kb
    · exact Or.inl rfl
    · refine Or.inr fun e => ?_
      have h1 := (prow_own hrowb kb hb).1
      obtain ⟨_, cs, f, h2⟩ := prow_own RA.out kb e.symm
      have := lt_of_obj h2
      omega)
  clear A2 H2 G2 hrowb hgb RA
  obtain ⟨ao, cap, hva, _, _⟩ := prow_val RA3.out
  subst hva
  obtain ⟨bo, capb, hvb, _, _⟩ := prow_val RB3.out
  subst hvb
  have HRA := Lib.hid (prow_room RA3.out)
  clear RA3
  go_wp2_with fail
  go_loopw [28] (fun i wr => ∃ k : Nat, k ≤ L.length ∧ i = .int .i64 k ∧ Hid (x3.grownBy wr (Value.slice ao L.length cap).ownBlock) ∧ Hid (∀ g, ao = some ⟨g, 0, none⟩ → Room wr g 34 (cap * 3))) (fun i _ => L.length - (intOf i).toNat)
  case atStart => exact ⟨0, by omega, rfl, Lib.hid (grow_refl _ _), Lib.hid (fun g e => by
    rcases HRA.out with ⟨h, _⟩ | ⟨g', h, _, _, h2⟩
    · rw [h] at e; cases e
    · rw [h] at e
      cases e
      exact h2)⟩
  case round =>
    obtain ⟨k, hk, rfl, hg, hroom⟩ := hrel
    by_cases hlk : k < L.length
    · obtain ⟨g, hx, hcap⟩ : ∃ g, ao = some ⟨g, 0, none⟩ ∧ L.length ≤ cap := by
        rcases HRA.out with ⟨_, h⟩ | ⟨g, h, _, h2, _⟩
        · rw [h] at hlk; simp at hlk
        · exact ⟨g, h, h2⟩
      subst hx
      have hr := hroom.out g rfl
      obtain ⟨u0, c0⟩ := hr.has (k * 3) (by omega)
      obtain ⟨u1, c1⟩ := hr.has (k * 3 + 1) (by omega)
      obtain ⟨u2, c2⟩ := hr.has (k * 3 + 2) (by omega)
      have f0 := hr.frozen (k * 3)
      have f1 := hr.frozen (k * 3 + 1)
      have f2 := hr.frozen (k * 3 + 2)
      clear hr
      go_wp2_with fail
      exact ⟨⟨k + 1, by omega, by go_num, Lib.hid (grow_setCell (grow_setCell (grow_setCell hg.out _ _) _ _) _ _), Lib.hid (fun g1 e => by
        cases e
        exact (((hroom.out g rfl).set _ _).set _ _).set _ _)⟩, by simp [intOf]; omega⟩
    · obtain rfl : k = L.length := by omega
      have HT1 : Hid (TB w.heap.size wr tb O) := Lib.hid (by
        rcases HRA.out with ⟨h, _⟩ | ⟨g, h, _, _, h2⟩
        · have := hg.out
          rw [h] at this
          exact H3.out.new this
        · have := hg.out
          rw [h] at this
          exact H3.out.rowed h2 this)
      have HG1 : Hid (w.grownBy wr none) := Lib.hid (by
        rcases hb : (Value.slice ao L.length cap).ownBlock with _ | kb
        · have := hg.out; rw [hb] at this; exact grow_trans G3.out this
        · have := hg.out; rw [hb] at this; exact grow_trans_new G3.out this (HWA.out kb hb))
      have RB1 := Lib.hid (RB3.out.kept hg.out HAB.out)
      clear hg hroom H3 G3 RB3 HAB HWA HRA
      go_wp2_with fail
      (with_reducible refine (D3 _).mono ?_)
      rintro e y1 ⟨vk, rfl, hvk, hg1⟩
      have HT2 := Lib.hid (HT1.out.new hg1)
      have HG2 := Lib.hid (grow_trans HG1.out hg1)
      have RB2 := Lib.hid (RB1.out.keptN hg1)
      have hkn : ks ≠ [] := fun e => by have := HL3.out; rw [e] at this; simp at this
      obtain ⟨gk, capk, nk, rfl, hbk, hnk, hrk⟩ := srow_room hvk hkn
      have HNE := Lib.hid hkn
      rw [HL3.out] at hnk ⊢
      have HRK := Lib.hid hrk
      have HBK : Hid (w.heap.size ≤ gk) := Lib.hid (Nat.le_trans HG1.out.size hbk)
      clear hvk hg1 HT1 HG1 RB1 hkn hrk hbk
      go_wp2_with fail
      (with_reducible refine (D3 _).mono ?_)
      rintro e y2 ⟨vm, rfl, hvm, hg2⟩
      have HT3 := Lib.hid (HT2.out.new hg2)
      have HG3 := Lib.hid (grow_trans HG2.out hg2)
      have RB4 := Lib.hid (RB2.out.keptN hg2)
      have hgl : gk < y1.heap.size := HRK.out.lt
      obtain ⟨gm, capm, rfl, hbm, hlm, _, _, hcm⟩ := srow_cells hvm HNE.out
      rw [HL3.out] at ⊢
      have hne : gm ≠ gk := by omega
      have HRK2 := Lib.hid (HRK.out.kept hg2 (by simp))
      have HCM := Lib.hid hcm
      clear hvm hg2 HT2 HG2 RB2 HRK hgl hbm hcm
      go_wp2_with fail
      go_loopw [50] (fun i wr => ∃ k : Nat, k ≤ 3 ∧ i = .int .i64 k ∧ Hid (y2.grownBy wr (some gk)) ∧ Hid (Room wr gk 9 nk)) (fun i _ => 3 - (intOf i).toNat)
      case atStart => exact ⟨0, by omega, rfl, Lib.hid (grow_refl _ _), HRK2⟩
      case round =>
        obtain ⟨j, hj, rfl, hg, hroom⟩ := hrel
        by_cases hlj : j < 3
        · obtain ⟨u0, c0⟩ := hroom.out.has j (by omega)
          have f0 := hroom.out.frozen j
          go_wp2_with fail
          exact ⟨⟨j + 1, by omega, by go_num, Lib.hid (grow_setCell hg.out _ _), Lib.hid (hroom.out.set _ _)⟩, by simp [intOf]; omega⟩
        · obtain rfl : j = 3 := by omega
          have HT4 : Hid (TB w.heap.size wr tb O) := Lib.hid (HT3.out.kept hg.out (fun b e o ho => by
            obtain rfl := Option.some.inj e
            obtain ⟨cs, _, h2⟩ := HRK2.out
            unfold Blk at h2
            rw [h2] at ho
            cases ho
            exact not_IsN rfl (by decide) (by decide)))
          have HG4 := Lib.hid (grow_trans_new HG3.out hg.out HBK.out)
          have RB5 : Hid (prow wr x2.heap.size (.slice bo L.length capb) L) := Lib.hid (RB4.out.kept hg.out (Or.inr (by
            obtain ⟨cs, _, h2⟩ := HRK2.out
            exact prow_other RB4.out h2 (by decide))))
          have HCM2 : Hid (∀ i (hi : i < ks.length), wr.cell? ⟨gm, i, none⟩ = some (S ks[i])) := Lib.hid (fun i hi => hg.out.cell (HCM.out i hi) (by simp; exact hne))
          clear HT3 HG3 RB4 HCM HRK2 hg hroom
          go_wp2_with fail
          (with_reducible refine (D3 _).mono ?_)
          rintro e y3 ⟨vn, rfl, hvn, hg3⟩
          have HT5 := Lib.hid (HT4.out.new hg3)
          have HG5 := Lib.hid (grow_trans HG4.out hg3)
          have RB6 := Lib.hid (RB5.out.keptN hg3)
          obtain ⟨gn, capn, rfl, hbn, hln, _, _, hcn⟩ := srow_cells hvn HNE.out
          rw [HL3.out]
          have HCN := Lib.hid hcn
          have HCM3 : Hid (∀ i (hi : i < ks.length), y3.cell? ⟨gm, i, none⟩ = some (S ks[i])) := Lib.hid (fun i hi => hg3.cell (HCM2.out i hi) (by simp))
          have A6 := code_ptall y3 _ tb O HT5.out
          rw [← HHL.out] at A6
          clear hvn hg3 HT4 HG4 RB5 HCM2 hcn hbn
          go_wp2_with fail
          (with_reducible refine A6.mono ?_)
          rintro e y4 ⟨v4, rfl, hrow4, hg4⟩
          have A7 := code_kpeq y4 v4 _ L hrow4.paths (RB6.out.keptN hg4).paths (by omega)
          have HG6 := Lib.hid (grow_trans HG5.out hg4)
          have HCM4 : Hid (∀ i (hi : i < ks.length), y4.cell? ⟨gm, i, none⟩ = some (S ks[i])) := Lib.hid (fun i hi => hg4.cell (HCM3.out i hi) (by simp))
          have HCN4 : Hid (∀ i (hi : i < ks.length), y4.cell? ⟨gn, i, none⟩ = some (S ks[i])) := Lib.hid (fun i hi => hg4.cell (HCN.out i hi) (by simp))
          clear A6 hrow4 hg4 HT5 HG5 RB6 HCM3 HCN
          go_wp2_with fail
          (with_reducible refine A7.mono ?_)
          rintro e y5 ⟨rfl, hg5⟩
          have A8 := code_eqs y5 gm gn 3 capm capn ks HL3.out (by omega) (fun i hi => hg5.cell (HCM4.out i hi) (by simp)) (fun i hi => hg5.cell (HCN4.out i hi) (by simp))
          have HG7 := Lib.hid (grow_trans HG6.out hg5)
          clear A7 hg5 HG6 HCM4 HCN4
          go_wp2_with fail
          (with_reducible refine A8.mono ?_)
          rintro e y6 ⟨rfl, rfl⟩
          go_wp2_with fail
          go_ret
          exact ⟨rfl, grow_below HG7.out _ (Nat.le_refl _) (by simp)⟩

end Go.Proofs.Ytbkgfpebffmffaa
