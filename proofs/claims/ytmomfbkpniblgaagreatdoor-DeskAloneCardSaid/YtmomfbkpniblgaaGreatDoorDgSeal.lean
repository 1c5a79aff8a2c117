/- Sealed by streams: the functions. -/
import Derived.Test.YtmomfbkpniblgaaGreatDoorDg17
import Derived.Test.YtmomfbkpniblgaaGreatDoorDgTagW
namespace Go.Proofs.YtmomfbkpniblgaaGreatDoor
open Go.RowKit
set_option linter.unusedVariables false

set_option maxHeartbeats 1000000 in
theorem code_filled (w : World) (s : List UInt8) (hs : s.length ≤ 1000000) : Calls Tryz.prog 206 #[S s] w (Grown (S (filledL s)) w) := by
  have hV : filledL s = s ++ zerosL ((16 - s.length % 16) % 16) := rfl
  generalize filledL s = V at *
  have HV := Lib.hid hV
  clear hV
  obtain ⟨m, hm⟩ : ∃ m, m = (16 - s.length % 16) % 16 := ⟨_, rfl⟩
  rw [← hm] at HV
  have m16 : m < 16 := by omega
  have h1 : -((s.length : Int) % 16) % 16 = (m : Int) := by rw [hm]; omega
  have HM := Lib.hid hm
  clear hm
  have A := fun W : World => repeat_zero W m (by omega)
  have r1 := rule_app
  have r3 := zerosL_length
  have hcat : s.length + m ≤ 9223372036854775807 := by omega
  unfold S at *
  go_enter Tryz.func206, Tryz.ntmps206
  go_wp2_with fail
  refine (A _).mono ?_
  rintro e x1 ⟨rfl, hg⟩
  go_wp2_with fail
  rw [HV.out]
  go_ret
  exact ⟨rfl, hg⟩

set_option maxRecDepth 20000 in
set_option maxHeartbeats 2000000 in
theorem code_etag (w : World) (key nonce more s : List UInt8) (hk : key.length = 32) (hn : nonce.length = 12) (hm : more.length ≤ 100000) (hs : s.length ≤ 100000) :
    Calls Tryz.prog 156 #[S key, S nonce, S more, S s] w (Grown (S (sealTagL key nonce more s)) w) := by
  have hV : sealTagL key nonce more s = tagL ((blockL key nonce 0).take 32) (filledL more ++ filledL s ++ (leB more.length 8 ++ leB s.length 8)) := rfl
  generalize sealTagL key nonce more s = V at *
  have A1 : ∀ W : World, Calls Tryz.prog 205 #[S key, S nonce, .int .u32 0] W (Blocked (blockL key nonce 0) W) := fun W => code_cblock W key nonce 0 hk hn (by omega)
  have lb := blockL_length key nonce 0
  generalize blockL key nonce 0 = bl at *
  have AL1 : ∀ W : World, Calls Tryz.prog 96 #[.slice none 0 0, .int .u64 (more.length : Int), .int .i64 8] W (OwnBytesN W W.heap.size (leB more.length 8)) := fun W => wire_appendLittle W W.heap.size (.slice none 0 0) [] more.length 8 (brow_nil _ _) (by omega) (by omega) (by simp) (Nat.le_refl _)
  have AL2 : ∀ (W : World) (b : Nat) (v : Value), brow W b v (leB more.length 8) → b ≤ W.heap.size → Calls Tryz.prog 96 #[v, .int .u64 (s.length : Int), .int .i64 8] W (OwnBytesN W b (leB more.length 8 ++ leB s.length 8)) := fun W b v h1 h2 => wire_appendLittle W b v (leB more.length 8) s.length 8 h1 (by omega) (by omega) (by rw [leB_length]; omega) h2
  have lz : (leB more.length 8 ++ leB s.length 8).length = 16 := by rw [List.length_append, leB_length, leB_length]
  have A2 := fun W : World => code_filled W more (by omega)
  have A3 := fun W : World => code_filled W s (by omega)
  have lf1 := filledL_length more
  have lf2 := filledL_length s
  have A4 : ∀ W : World, Calls Tryz.prog 56 #[S (bl.take 32), S (filledL more ++ filledL s ++ (leB more.length 8 ++ leB s.length 8))] W (Grown (.tuple #[S V, .int .i64 0]) W) := fun W => by
    rw [hV]
    exact code_ptag W _ _ (by rw [List.length_take]; omega) (by rw [List.length_append, List.length_append]; omega)
  generalize filledL more = fm at *
  generalize filledL s = fs at *
  generalize leB more.length 8 ++ leB s.length 8 = sz at *
  rw [List.append_assoc] at A4
  have w1 : IntKind.u64.wrap (more.length : Int) = (more.length : Int) := IntWalk.u64_in _ (by omega)
  have w2 : IntKind.u64.wrap (s.length : Int) = (s.length : Int) := IntWalk.u64_in _ (by omega)
  have k1 : fm.length + fs.length ≤ 9223372036854775807 := by omega
  have k2 : (fm ++ fs).length + sz.length ≤ 9223372036854775807 := by rw [List.length_append]; omega
  have k4 : fm.length + fs.length + sz.length ≤ 9223372036854775807 := by omega
  have k3 : 32 ≤ bl.length := by omega
  have r1 := rule_app
  have r2 := rule_ext
  unfold S Blocked at *
  clear hV hk hn hm hs lf1 lf2
  go_enter Tryz.func156, Tryz.ntmps156
  go_wp2_with fail
  refine (A1 _).mono ?_
  rintro e x1 ⟨rfl, hg1⟩
  go_wp2_with fail
  refine (AL1 _).mono ?_
  rintro e x2 ⟨t1, rfl, hb1, hB1⟩
  go_wp2_with fail
  refine (AL2 _ _ _ hb1 hB1.size).mono ?_
  rintro e x3 ⟨t2, rfl, hb2, hB2⟩
  have hg3 := grow_trans hg1 (grow_of_below (hB1.trans hB2))
  clear hg1 hB1 hB2 hb1 AL1 AL2 A1
  unfold S
  go_wp2_with fail
  have b0 := hb2.drew
  have c0 := conv_brow b0
  unfold S at c0
  go_region_with (first
    | (go_at_call 206; (with_reducible refine (A2 _).mono ?_); rintro e y1 ⟨rfl, g1⟩; have b1 := b0.keptb g1; have c1 := conv_brow b1; unfold S at c1)
    | (go_at_call 206; (with_reducible refine (A3 _).mono ?_); rintro e y2 ⟨rfl, g2⟩; have b2 := b1.keptb g2; have c2 := conv_brow b2; unfold S at c2)
    | (go_at_call 56; (with_reducible refine (A4 _).mono ?_); rintro e y3 ⟨rfl, g3⟩))
  all_goals
    go_wp2_with fail
    go_ret
    exact ⟨rfl, grow_trans (grow_trans (grow_trans (grow_drew hg3) g1) g2) g3⟩

end Go.Proofs.YtmomfbkpniblgaaGreatDoor
