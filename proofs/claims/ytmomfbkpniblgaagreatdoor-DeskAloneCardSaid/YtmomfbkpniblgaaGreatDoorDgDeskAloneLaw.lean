/- The walk of DeskAlone: what a line is answered hangs on that line alone. -/
import Derived.Test.YtmomfbkpniblgaaGreatDoorDg48
import Derived.Test.YtmomfbkpniblgaaGreatDoorDg09
import Derived.Test.YtmomfbkpniblgaaGreatDoorDg21
import Derived.Test.YtmomfbkpniblgaaGreatDoorDg04
namespace Go.Proofs.YtmomfbkpniblgaaGreatDoor
open Go.RowKit
set_option linter.unusedVariables false

theorem any_dline (s : List UInt8) (hs : s.length ≤ 300) : ∃ t : List UInt8, ∀ w : World, Calls Tryz.prog 23 #[S s] w (Grown (S t) w) := line_of any_danswered s hs
open Classical in
/-- What a line is answered. -/
noncomputable def lineV (s : List UInt8) : List UInt8 := if s = whatB then errL 3 else if h : s.length ≤ 300 then Classical.choose (any_dline s h) else []
theorem lines_are : LinesAre lineV := by
  intro s hs w
  unfold lineV
  by_cases e : s = whatB
  · subst e
    rw [if_pos rfl]
    exact code_what w
  · rw [if_neg e, dif_pos hs]
    exact Classical.choose_spec (any_dline s hs) w
theorem lineV_what : lineV whatB = [101, 114, 114, 111, 114, 32, 51] := by
  unfold lineV
  rw [if_pos rfl]
  decide +kernel
theorem strs_new (w : World) (s : List UInt8) (t : TypeId) : StrsAt (w.alloc (.cells #[S s] t)) (some ⟨w.heap.size, 0, none⟩) [s] := by
  intro i hi
  obtain rfl : i = 0 := by simp at hi; omega
  exact ⟨_, rfl, by rw [show (⟨w.heap.size, 0, none⟩ : Addr).add 0 = ⟨w.heap.size, 0, none⟩ from rfl, obj_cell (obj_new w _)]; rfl⟩

set_option maxHeartbeats 4000000 in
theorem alone_no (w : World) (a : Option Addr) (len cap : Nat) (x1 : Int) (A : Calls Tryz.prog 8 #[.slice a len cap] w (RanNo w)) :
    Calls Tryz.prog 3 #[.slice a len cap, .int .i64 x1] w fun e w' => e = .returned (.bool true) ∧ Below w.heap.size w w' := by
  unfold RanNo at A
  go_enter Tryz.func3, Tryz.ntmps3
  go_wp2_with fail
  (with_reducible refine A.mono ?_)
  rintro e x ⟨rfl, rfl⟩
  go_wp2_with fail
  go_ret
  exact ⟨rfl, Below.refl _ _⟩

set_option maxHeartbeats 8000000 in
theorem alone_ok (w : World) (a : Option Addr) (ss : List (List UInt8)) (cap : Nat) (x1 : Int) (w1 : (Lit.int .i64 x1).wf = true) (hat : StrsAt w a ss) (hc : ss.length ≤ cap) (hcm : cap ≤ maxLen) (hok : linesOk ss) :
    Calls Tryz.prog 3 #[.slice a ss.length cap, .int .i64 x1] w fun e w' => e = .returned (.bool true) ∧ Below w.heap.size w w' := by
  have hl60 := hok.1
  have A := code_drun_ok lineV lines_are w a ss cap hat hc hok
  have A2 : ∀ W : World, Calls Tryz.prog 8 #[.slice (some ⟨W.heap.size, 0, none⟩) 1 1] (W.alloc (.cells #[S whatB] 9)) (RanTo lineV [whatB] (W.alloc (.cells #[S whatB] 9))) := fun W =>
    code_drun_ok lineV lines_are (W.alloc (.cells #[S whatB] 9)) (some ⟨W.heap.size, 0, none⟩) [whatB] 1 (strs_new W whatB _) (by simp) ⟨by simp, fun s hs => by simp at hs; subst hs; decide⟩
  unfold RanTo at A A2
  rw [List.map_singleton, lineV_what] at A2
  unfold whatB at A2
  obtain ⟨K, hK⟩ : ∃ K, K = ss.length := ⟨_, rfl⟩
  rcases Nat.eq_zero_or_pos ss.length with h0 | h0
  · have hnil : ss = [] := List.eq_nil_of_length_eq_zero h0
    subst hnil
    simp only [List.length_nil, List.map_nil] at *
    have HA := A
    clear hat A
    unfold S at A2
    go_enter Tryz.func3, Tryz.ntmps3
    go_wp2_with fail
    (with_reducible refine HA.mono ?_)
    rintro e x ⟨v, rfl, hrow, hg⟩
    have hv0 : ∃ g c, v = .slice g 0 c := by
      rcases hrow.2 with ⟨e, _⟩ | ⟨g2, cap, cur, e, _⟩
      · exact ⟨_, _, e⟩
      · exact ⟨_, _, e⟩
    obtain ⟨g, c, rfl⟩ := hv0
    have HG := Lib.hid hg
    clear hg hrow HA
    go_wp2_with fail
    (with_reducible refine (A2 _).mono ?_)
    rintro e y ⟨v2, rfl, hrow2, hg2⟩
    obtain ⟨g2, c2, rfl, _, _, hc1, hc2, hcell⟩ := srow_cells hrow2 (by simp)
    have k0 : y.cell? ⟨g2, 0, none⟩ = some (.string ⟨#[101, 114, 114, 111, 114, 32, 51]⟩) := hcell 0 (by simp)
    have HG2 := Lib.hid (grow_trans (grow_alloc HG.out (.cells #[.string ⟨#[119, 104, 97, 116]⟩] 9)) hg2)
    clear hcell hrow2 hg2 A2 HG
    simp only [List.length_cons, List.length_nil, Nat.zero_add] at *
    go_wp2_with fail
    go_ret
    exact ⟨rfl, grow_below HG2.out _ (Nat.le_refl _) (by simp)⟩
  · obtain ⟨b0, b1⟩ := wf_i64_of w1
    obtain ⟨k, hk, R⟩ := rest_nat x1 ss.length (ss.length : Int) rfl b0 b1 h0 (by omega)
    obtain ⟨x0, rfl, _⟩ := hat 0 h0
    have hcK : k < cap := by omega
    have hk60 : k ≤ 60 := by omega
    have A3 : ∀ W : World, w.grownBy W none → Calls Tryz.prog 8 #[.slice (some (x0.add k)) 1 (cap - k)] W (RanTo lineV [ss[k]] W) := fun W hW => by
      have h := code_drun_ok lineV lines_are W (some (x0.add k)) [ss[k]] (cap - k) (fun i hi => by
        obtain rfl : i = 0 := by simp at hi; omega
        refine ⟨_, rfl, ?_⟩
        rw [show (x0.add k).add 0 = x0.add k from rfl]
        obtain ⟨y0, e, hcell⟩ := hat k hk
        cases e
        exact hW.cell hcell (by simp)) (by simp; omega) ⟨by simp, fun s hs => by simp at hs; subst hs; exact hok.2 _ (List.getElem_mem hk)⟩
      exact h
    unfold RanTo at A3
    rw [List.map_singleton] at A3
    have HL := Lib.hid (show (ss.map lineV)[k]? = some (lineV ss[k]) from by simp [hk])
    have HML := Lib.hid (show (ss.map lineV).length = ss.length from by simp)
    have HK := Lib.hid hK
    have hne : ((ss.length : Int) == 0) = false := by rw [beq_eq_false_iff_ne]; omega
    generalize lineV ss[k] = t at *
    generalize ss.map lineV = ts at *
    rw [← hK] at *
    clear hat hok hK
    unfold S at A2
    go_enter Tryz.func3, Tryz.ntmps3
    go_wp2_with fail
    (with_reducible refine A.mono ?_)
    rintro e x ⟨v, rfl, hrow, hg⟩
    obtain ⟨g, c, rfl, _, _, hc1, hc2, hcell⟩ := srow_cells hrow (fun e => by rw [e] at HML; have := HML.out; simp at this; omega)
    have hkt : k < ts.length := by have := HML.out; omega
    have hTK := HML.out
    rw [hTK] at hc1 ⊢
    have hcx : x.cell? ⟨g, k, none⟩ = some (S t) := by
      have e1 := HL.out
      rw [List.getElem?_eq_getElem hkt] at e1
      rw [← Option.some.inj e1]
      exact hcell k hkt
    have HG := Lib.hid hg
    have HCX := Lib.hid hcx
    clear hg hrow A hcell hcx
    go_wp2_with fail
    (with_reducible refine (A2 _).mono ?_)
    rintro e y ⟨v2, rfl, hrow2, hg2⟩
    obtain ⟨g2, c2, rfl, _, _, hc3, hc4, hcell⟩ := srow_cells hrow2 (by simp)
    have k0 : y.cell? ⟨g2, 0, none⟩ = some (.string ⟨#[101, 114, 114, 111, 114, 32, 51]⟩) := hcell 0 (by simp)
    have hgx := grow_trans (World.grownBy_alloc x (.cells #[.string ⟨#[119, 104, 97, 116]⟩] 9) none) hg2
    have HCY := Lib.hid (hgx.cell HCX.out (by simp))
    have HGY := Lib.hid (grow_trans HG.out hgx)
    clear hcell hrow2 hg2 A2 HG HCX hgx
    simp only [List.length_cons, List.length_nil, Nat.zero_add] at *
    go_wp2_with fail
    (with_reducible refine (R _).mono ?_)
    rintro e z ⟨rfl, rfl⟩
    have A4 := A3 _ HGY.out
    clear A3 R
    have i1 : IntKind.i64.wrap ((k : Int) + 1) = (k : Int) + 1 := IntWalk.i64_in _ (by omega)
    have i2 : (k : Int) + 1 ≤ (cap : Int) := by omega
    have i3 : (k : Int) ≤ (k : Int) + 1 := by omega
    have i4 : ¬ cap = k := by omega
    have i5 : k + 1 - k = 1 := by omega
    have i6 : ¬ cap - k = 0 := by omega
    go_wp2_with fail
    (with_reducible refine A4.mono ?_)
    rintro e z ⟨v3, rfl, hrow3, hg3⟩
    obtain ⟨g3, c3, rfl, _, _, hc5, hc6, hcell⟩ := srow_cells hrow3 (by simp)
    have k1 : z.cell? ⟨g3, 0, none⟩ = some (.string ⟨t.toArray⟩) := hcell 0 (by simp)
    have k2 : z.cell? ⟨g, k, none⟩ = some (.string ⟨t.toArray⟩) := hg3.cell HCY.out (by simp)
    have HGZ := Lib.hid (grow_trans HGY.out hg3)
    clear hcell hrow3 hg3 A4 HGY HCY k0
    simp only [List.length_cons, List.length_nil, Nat.zero_add] at *
    go_wp2_with fail
    go_quiet (fail)
    go_wp2_with fail
    go_ret
    exact ⟨by simp, grow_below (grow_drewN HGZ.out _) _ (Nat.le_refl _) (by simp)⟩

theorem walk_DeskAlone (a : Option Addr) (len cap : Nat) (x1 : Int) (w1 : (Lit.int .i64 x1).wf = true) (w : World) (r0 : IsRecs [.str] w a len cap) :
    Calls Tryz.prog 3 #[.slice a len cap, .int .i64 x1] w fun e w' => e = .returned (.bool true) ∧ Below w.heap.size w w' := by
  obtain ⟨⟨h1, h2⟩, ss, rfl, hat, hb⟩ := strs_of r0
  by_cases hn : 60 < ss.length
  · exact alone_no w a _ cap x1 (code_drun_many w a _ cap hn)
  by_cases hl : ∀ s ∈ ss, s.length ≤ 300
  · exact alone_ok w a ss cap x1 w1 hat h1 h2 ⟨by omega, hl⟩
  · have hex : ∃ k, k < ss.length ∧ ∃ t, ss[k]? = some t ∧ 300 < t.length := by
      refine Classical.byContradiction fun hno => hl fun s hs => ?_
      obtain ⟨k, hk, rfl⟩ := List.mem_iff_getElem.1 hs
      refine Classical.byContradiction fun h => hno ⟨k, hk, _, List.getElem?_eq_getElem hk, by omega⟩
    have hmin : ∀ n, (∃ k, k < n ∧ k < ss.length ∧ ∃ t, ss[k]? = some t ∧ 300 < t.length) → ∃ k, k < ss.length ∧ (∃ t, ss[k]? = some t ∧ 300 < t.length) ∧ ∀ j (h : j < ss.length), j < k → ss[j].length ≤ 300 := by
      intro n
      induction n with
      | zero => rintro ⟨k, h, _⟩; omega
      | succ n ih =>
        rintro ⟨k, h, hk, ht⟩
        by_cases hs : ∃ k, k < n ∧ k < ss.length ∧ ∃ t, ss[k]? = some t ∧ 300 < t.length
        · exact ih hs
        · refine ⟨k, hk, ht, fun j hj hjk => Classical.byContradiction fun hc => hs ⟨j, by omega, hj, _, List.getElem?_eq_getElem hj, by omega⟩⟩
    obtain ⟨k0, hk0, ht0⟩ := hex
    obtain ⟨k, hk, ⟨t, ht, hlt⟩, hmn⟩ := hmin (k0 + 1) ⟨k0, by omega, hk0, ht0⟩
    exact alone_no w a _ cap x1 (code_drun_long w a ss cap hat h1 (by omega) k hk (fun t' e => by rw [ht] at e; cases e; exact hlt) hmn (fun s hs => by have := hb s hs; unfold maxLen at this; omega))

end Go.Proofs.YtmomfbkpniblgaaGreatDoor
