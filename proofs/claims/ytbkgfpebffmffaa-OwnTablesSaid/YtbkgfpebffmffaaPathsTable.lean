/- The keeper's table of prefixes: what was set and dropped. -/
import Derived.Test.YtbkgfpebffmffaaPathsDrop
import Derived.Test.YtbkgfpebffmffaaStepOf
namespace Go.Proofs.Ytbkgfpebffmffaa
open Go.RowKit
set_option linter.unusedVariables false

theorem GT.all {w w' : World} (h : GT w.heap.size w w') : w.grownBy w' none := ⟨h.os, h.tape, h.output, h.size, fun k hk _ => h.low k hk hk⟩
theorem tb_new {w w' : World} {N : Pf → Option Nat} (h : Tree w' w.heap.size (fun p => if p = [] then some w.heap.size else none) (fun _ => false) (fun _ => 0) 0) : TB w.heap.size w' w.heap.size (fun _ => none) := by
  have e0 : ownO (fun _ => false) (fun _ => 0) = (fun _ => none) := rfl
  have e1 : (allP (fun _ => none)).length = 0 := by unfold allP; rw [lstP_nil _ _ _ (fun _ => rfl)]; rfl
  refine ⟨_, _, _, by rw [e1]; exact h, fun p b hp => ?_, e0, by omega⟩
  split at hp
  · have := Option.some.inj hp; omega
  · cases hp

set_option maxHeartbeats 4000000 in
theorem code_kptable (w : World) (a : Option Addr) (len cap : Nat) (r : IsRecs stepKs w a len cap) :
    Calls Try.prog 7 #[.slice a len cap] w fun e w' => ∃ tb O, e = .returned (.pointer (some ⟨tb, 0, none⟩)) ∧ TB w.heap.size w' tb O ∧ w.grownBy w' none := by
  obtain ⟨⟨hl, hm⟩, hin⟩ := steps_in r
  have HIN := Lib.hid hin
  unfold maxLen at hm
  clear r hin
  go_enter Try.func7, Try.ntmps7
  go_wp2_with fail
  refine (code_ptnew w).mono ?_
  rintro e x1 ⟨rfl, hT, hg⟩
  have h1 := tb_new (N := fun _ => none) hT
  have A := code_ptset x1 w.heap.size w.heap.size _ h1 0 (by decide) 0 (-1) (by rfl) (by rfl)
  have e1 : setTo (fun _ => none) 0 0 (-1) = (1, fun _ => none) := if_pos (by omega)
  rw [e1] at A
  have g1 : GT w.heap.size w x1 := GT.new hg
  clear hT hg h1 e1
  go_wp2_with fail
  refine A.mono ?_
  rintro e x2 ⟨rfl, h2, hg2⟩
  have H2 := Lib.hid h2
  have G2 := Lib.hid (g1.trans hg2)
  clear A g1 h2 hg2
  go_wp2_with fail
  go_loopw [17] (fun i wr => ∃ (k : Nat) (O : Own), k ≤ len ∧ i = .int .i64 k ∧ Hid (TB w.heap.size wr w.heap.size O) ∧ Hid (GT w.heap.size w wr)) (fun i _ => len - (intOf i).toNat)
  case atStart => exact ⟨0, _, by omega, rfl, H2, G2⟩
  case round =>
    clear H2 G2
    obtain ⟨k, O, hk, rfl, hT, hG⟩ := hrel
    by_cases hlk : k < len
    · obtain ⟨v, hv⟩ := HIN.out k hlk
      have hv2 := hv.later (grow_below hG.out.all _ (Nat.le_refl _) (by simp))
      have hvok := hv2.1
      obtain ⟨x, rfl, hxl, c0, c1, c2, c3, c4, c5, c6, c7⟩ := hv2.cells8
      clear hv2 hv
      have hobj0 := obj_new wr (.cells v.cells 50)
      have HS := fun W : World => of_step W v hvok 4 (by omega) (by omega)
      unfold StepV.cells at HS hobj0
      have bK := bounds_i64 hvok.1
      have ga : wr.grownBy (wr.alloc (.cells v.cells 50)) none := World.grownBy_alloc _ _ _
      have TA := Lib.hid (hT.out.new ga)
      have GA := Lib.hid (hG.out.more ga)
      unfold StepV.cells at TA GA
      clear hT hG ga
      go_wp2_with fail
      refine (HS _).mono ?_
      rintro e y ⟨rfl, hg4⟩
      have hobj := grow_obj hg4 hobj0 (by simp)
      have d1 := obj_cell hobj 1
      have d6 := obj_cell hobj 6
      have d7 := obj_cell hobj 7
      have TB1 := TA.out.new hg4
      have GB1 := GA.out.more hg4
      have q0 : 0 ≤ v.kind % 4 := by omega
      clear TA GA hg4 hobj hobj0 HS c0 c1 c2 c3 c4 c5 c6 c7
      by_cases hz : v.kind % 4 = 0
      · have hzb : (v.kind % 4 == 0) = true := by rw [hz]; rfl
        have A := code_ptdrop y w.heap.size w.heap.size O TB1 v.a hvok.2.1
        clear TB1
        go_wp2_with fail
        refine A.mono ?_
        rintro e z ⟨rfl, hT, hg⟩
        have HT := Lib.hid hT
        have HG := Lib.hid (GB1.trans hg)
        clear A hT hg GB1
        go_wp2_with fail
        go_roundw
        case rel => exact ⟨k + 1, _, by omega, by go_num, HT, HG⟩
        case measure => simp [intOf]; omega
      · have hzb : (v.kind % 4 == 0) = false := by rw [beq_eq_false_iff_ne]; exact hz
        obtain ⟨ad, had, hadl⟩ : ∃ ad : Nat, v.addr = (ad : Int) ∧ ad < 4294967296 := by
          have := bounds_u32 hvok.2.2.2.2.2.2.1
          exact ⟨v.addr.toNat, by omega, by omega⟩
        rw [had] at d6
        have A := code_ptset y w.heap.size w.heap.size O TB1 ad hadl v.bits v.a hvok.2.2.2.2.2.2.2 hvok.2.1
        clear TB1
        go_wp2_with fail
        refine A.mono ?_
        rintro e z ⟨rfl, hT, hg⟩
        have HT := Lib.hid hT
        have HG := Lib.hid (GB1.trans hg)
        clear A hT hg GB1
        go_wp2_with fail
        go_roundw
        case rel => exact ⟨k + 1, _, by omega, by go_num, HT, HG⟩
        case measure => simp [intOf]; omega
    · obtain rfl : k = len := by omega
      have HT := hT
      have HG := Lib.hid hG.out.all
      clear hT hG
      go_wp2_with fail
      go_ret
      exact ⟨_, O, rfl, HT.out, HG.out⟩

end Go.Proofs.Ytbkgfpebffmffaa
