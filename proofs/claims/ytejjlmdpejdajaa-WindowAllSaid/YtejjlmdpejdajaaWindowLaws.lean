/- The walks of the three statements on the window. -/
import Derived.Test.YtejjlmdpejdajaaWindow
import Derived.Test.YtejjlmdpejdajaaRest
import Derived.Test.YtejjlmdpejdajaaOpen
import Derived.Test.YtejjlmdpejdajaaSeen
import Derived.Test.YtejjlmdpejdajaaGrow
namespace Go.Proofs.Ytejjlmdpejdajaa
open Go.RowKit
set_option linter.unusedVariables false

/-- The number in a cell of a slice of numbers. -/
theorem recs_int {w : World} {x : Addr} {len : Nat} {k : IntKind} (h : ∀ i, i < len → ∀ (j : Nat) (q : Lk), [Lk.int k][j]? = some q → ∃ v, w.cell? (x.add (i * [Lk.int k].length + j)) = some v ∧ LeafOk q v) :
    ∃ f : Nat → Int, ∀ i, i < len → w.cell? (x.add i) = some (.int k (f i)) ∧ (Lit.int k (f i)).wf = true := by
  have h' : ∀ i, i < len → ∃ n : Int, w.cell? (x.add i) = some (.int k n) ∧ (Lit.int k n).wf = true := by
    intro i hi
    obtain ⟨v, hv, n, rfl, hw⟩ := h i hi 0 _ rfl
    exact ⟨n, by simpa using hv, hw⟩
  exact ⟨fun i => if hi : i < len then Classical.choose (h' i hi) else 0, fun i hi => by simp only [dif_pos hi]; exact Classical.choose_spec (h' i hi)⟩

/-- A slice of numbers that came in, or that was made: what is read of it. -/
def IntsAt (k : IntKind) (w : World) (a : Option Addr) (len : Nat) (f : Nat → Int) : Prop :=
  ∀ i, i < len → ∃ x, a = some x ∧ w.cell? (x.add i) = some (.int k (f i)) ∧ (Lit.int k (f i)).wf = true

theorem ints_of {k : IntKind} {w : World} {a : Option Addr} {len cap : Nat} (h : IsRecs [.int k] w a len cap) : (len ≤ cap ∧ cap ≤ maxLen) ∧ ∃ f, IntsAt k w a len f := by
  rcases h with ⟨rfl, rfl, rfl⟩ | ⟨x, rfl, h1, h2, h3⟩
  · exact ⟨⟨Nat.le_refl _, Nat.zero_le _⟩, fun _ => 0, fun i hi => absurd hi (Nat.not_lt_zero _)⟩
  · obtain ⟨f, hf⟩ := recs_int h3
    exact ⟨⟨h1, h2⟩, f, fun i hi => ⟨x, rfl, hf i hi⟩⟩

theorem IntsAt.kept {k : IntKind} {w w' : World} {r : Option Nat} {a : Option Addr} {len : Nat} {f : Nat → Int} (h : IntsAt k w a len f) (g : w.grownBy w' r) (hr : ∀ x, a = some x → some x.block ≠ r) : IntsAt k w' a len f := by
  intro i hi
  obtain ⟨x, hx, hc, hw⟩ := h i hi
  refine ⟨x, hx, g.cell hc ?_, hw⟩
  have : (x.add i).block = x.block := by unfold Addr.add; split <;> rfl
  rw [this]; exact hr x hx

def WindowMade (w : World) (B : Int) (e : Ending) (w' : World) : Prop :=
  ∃ next m, e = .returned (.pointer (some ⟨w.heap.size, 0, none⟩)) ∧ WnAt w' w.heap.size next m ∧ 0 ≤ next ∧ next ≤ B ∧ next ≤ 1099511627777 ∧ m < 18446744073709551616 ∧ w.grownBy w' none

set_option maxHeartbeats 1000000 in
theorem windows_any (w : World) (a : Option Addr) (len cap : Nat) (f : Nat → Int) (B : Int) (h : IntsAt .i64 w a len f) (hl : len ≤ maxLen) (hB : 0 ≤ B) (hall : ∀ i, i < len → f i + 1 ≤ B) :
    Calls Try.prog 15 #[.slice a len cap] w (WindowMade w B) := by
  unfold maxLen at hl
  go_enter Try.func15, Try.ntmps15
  go_wp2_with fail
  refine (window_new w).mono ?_
  rintro e x1 ⟨rfl, ht1, hg1⟩
  go_wp2_with fail
  refine (window_check x1 _ 0 0 (-1) ht1 (by omega) (by omega) (by omega) (by decide)).mono ?_
  rintro e x2 ⟨rfl, hg2⟩
  rw [show wnCheck 0 0 (-1) = 1 from by decide]
  have ht2 := ht1.kept hg2 (by simp)
  have hg := grow_trans hg1 hg2
  clear hg1 hg2 ht1
  go_wp2_with fail
  go_loopw [16] (fun i wr => ∃ k : Nat, ∃ next : Int, ∃ m : Nat, k ≤ len ∧ i = .int .i64 k ∧ WnAt wr w.heap.size next m ∧ 0 ≤ next ∧ next ≤ B ∧ next ≤ 1099511627777 ∧ m < 18446744073709551616 ∧ w.grownBy wr none) (fun i _ => len - (intOf i).toNat)
  case atStart => exact ⟨0, 0, 0, by omega, rfl, ht2, by omega, hB, by omega, by omega, hg⟩
  case round =>
    obtain ⟨k, next, m, hk, rfl, ht, n0, nB, n1, m1, hg⟩ := hrel
    clear ht2
    by_cases hlt : k < len
    · obtain ⟨x, rfl, hc, hw⟩ := h k hlt
      have hc' := hg.cell hc (by simp)
      have hal := hall k hlt
      have hok := wnTake_ok next m (f k) n0 n1 m1
      go_wp2_with fail
      refine (window_take _ _ next m (f k) ht n0 n1 m1 hw).mono ?_
      rintro e x3 ⟨rfl, ht3, hg3⟩
      go_wp2_with fail
      go_roundw
      case rel => exact ⟨k + 1, _, _, by omega, by go_num, ht3, by omega, by omega, by omega, hok.2.2.1, grow_trans_new hg hg3 (by omega)⟩
      case measure => simp [intOf]; omega
    · go_wp2_with fail
      go_ret
      exact ⟨next, m, rfl, ht, n0, nB, n1, m1, hg⟩

set_option maxHeartbeats 1000000 in
theorem walk_WindowOld (a0 : Option Addr) (len0 cap0 : Nat) (a1 : Int) (w1 : (Lit.int .i64 a1).wf = true) (w : World) (r0 : IsRecs [.int .i64] w a0 len0 cap0) :
    Calls Try.prog 5 #[.slice a0 len0 cap0, .int .i64 a1] w fun e w' => e = .returned (.bool true) ∧ Below w.heap.size w w' := by
  obtain ⟨⟨hl, hm⟩, f, hf⟩ := ints_of r0
  have ha : ∀ x, a0 = some x → x.block < w.heap.size ∨ len0 = 0 := by
    intro x hx
    by_cases h0 : len0 = 0
    · exact Or.inr h0
    · obtain ⟨y, hy, hc, _⟩ := hf 0 (by omega)
      rw [hx] at hy
      cases hy
      have := World.block_lt_of_cell? w _ hc
      left; simpa [Addr.add] using this
  have b1 := bounds_i64 w1
  clear w1 r0
  have hall : ∀ i, i < len0 → f i + 1 ≤ 9223372036854775808 := fun i hi => by
    obtain ⟨_, _, _, hw⟩ := hf i hi
    have := bounds_i64 hw; omega
  go_enter Try.func5, Try.ntmps5
  go_wp2_with fail
  refine (windows_any w a0 len0 cap0 f 9223372036854775808 hf (by omega) (by omega) hall).mono ?_
  rintro e x1 ⟨next, m, rfl, ht, n0, _, n1, m1, hg⟩
  clear hall hf
  have HB := grow_below hg w.heap.size (by omega) (by simp)
  go_wp2_with fail
  refine (rest_any a1 1099511627776 _ b1.1 b1.2 (by omega) (by omega)).mono ?_
  rintro e x2 ⟨rfl, rfl⟩
  have k0 : 0 ≤ a1 % 1099511627776 := by omega
  have k1 : a1 % 1099511627776 < 1099511627776 := by omega
  generalize a1 % 1099511627776 = N at *
  clear b1
  go_wp2_with fail
  refine (window_next _ _ next m ht).mono ?_
  rintro e x2 ⟨rfl, rfl⟩
  go_wp2_with fail
  refine (window_check _ _ next m N ht n0 n1 m1 (wf_i64 (by omega))).mono ?_
  rintro e x2 ⟨rfl, hg2⟩
  have HB2 := below_step HB hg2 (by simp)
  clear HB hg hg2 ht
  have hE : (N < next ∨ wnCheck next m N = 0) ∧ (next - 1 - 64 < N ∨ wnCheck next m N = 11) ∧ (wnCheck next m N = 0 ∨ wnCheck next m N = 11) := by
    unfold wnCheck
    rw [if_neg (by omega)]
    by_cases q1 : next - 1 - N < 0
    · rw [if_pos q1]; omega
    · rw [if_neg q1]
      by_cases q2 : 64 ≤ next - 1 - N ∨ m.testBit (next - 1 - N).toNat = true
      · rw [if_pos q2]; omega
      · rw [if_neg q2]; omega
  obtain ⟨h1, h2, h3⟩ := hE
  rcases h3 with h3 | h3
  · rw [h3] at h1 h2 ⊢
    clear h3 h1 m1
    go_wp2_with fail
    all_goals
      go_ret
      refine ⟨ret_bool ?_, HB2⟩
      first | rfl | (simp; done) | (simp; omega)
  · rw [h3] at h1 h2 ⊢
    clear h3 h2 m1
    go_wp2_with fail
    all_goals
      go_ret
      refine ⟨ret_bool ?_, HB2⟩
      first | rfl | (simp; done) | (simp; omega)

set_option maxHeartbeats 1000000 in
theorem walk_WindowOnce (a0 : Option Addr) (len0 cap0 : Nat) (w : World) (r0 : IsRecs [.int .i64] w a0 len0 cap0) :
    Calls Try.prog 4 #[.slice a0 len0 cap0] w fun e w' => e = .returned (.bool true) ∧ Below w.heap.size w w' := by
  obtain ⟨⟨hl, hm⟩, f, hf⟩ := ints_of r0
  clear r0
  have hmm := @run_makeMap Try.prog
  unfold maxLen at hm
  go_enter Try.func4, Try.ntmps4
  go_wp2_with fail
  refine (windows_any w none 0 0 (fun _ => 0) 0 (fun i hi => absurd hi (Nat.not_lt_zero _)) (by omega) (by omega) (fun i hi => absurd hi (Nat.not_lt_zero _))).mono ?_
  rintro e x1 ⟨next, m, rfl, ht, n0, n00, n1, m1, hg⟩
  have HB := grow_below hg w.heap.size (by omega) (by simp)
  have hlt := lt_of_obj ht
  clear hg n00
  go_wp2_with fail
  have hs := seen_made x1
  have hG : x1.grownBy (x1.alloc (.map #[] 0)) none := World.grownBy_alloc _ _ _
  have ht2 := ht.kept hG (by simp)
  have HB2 := below_step HB hG (by simp)
  have hx : ∃ x2, x2 = x1.alloc (.map #[] 0) := ⟨_, rfl⟩
  obtain ⟨x2, hx⟩ := hx
  rw [← hx] at hs ht2 HB2 ⊢
  clear hG HB ht hx
  generalize hsb : x1.heap.size = sb at *
  clear hsb x1
  have hz : ∀ k, (some w.heap.size : Option Nat) = some k → w.heap.size ≤ k := by simp
  have hy : ∀ k, (some sb : Option Nat) = some k → w.heap.size ≤ k := by simp; omega
  go_loopw [15] (fun i wr => ∃ k : Nat, ∃ next : Int, ∃ m : Nat, ∃ n : Nat, ∃ seen : Int → Bool, k ≤ len0 ∧ i = .int .i64 k ∧ WnAt wr w.heap.size next m ∧ 0 ≤ next ∧ next ≤ 1099511627777 ∧ m < 18446744073709551616 ∧ n ≤ k ∧ SeenAt wr sb n seen ∧ WnSeen next m seen ∧ Below w.heap.size w wr) (fun i _ => len0 - (intOf i).toNat)
  case atStart => exact ⟨0, next, m, 0, fun _ => false, by omega, rfl, ht2, n0, n1, m1, by omega, hs, WnSeen.start m next, HB2⟩
  case round =>
    clear ht2 hs HB2 n0 n1 m1
    obtain ⟨k, next, m, n, seen, hk, rfl, ht, n0, n1, m1, hn, hs, hS, HB⟩ := hrel
    by_cases hlk : k < len0
    · obtain ⟨x, rfl, hc, hw⟩ := hf k hlk
      have hxl : x.block < w.heap.size := by
        have := World.block_lt_of_cell? w _ hc
        have e : (x.add k).block = x.block := by unfold Addr.add; split <;> rfl
        omega
      have hc' : wr.cell? (x.add k) = some (.int .i64 (f k)) := by
        rw [HB.cell (by unfold Addr.add; split <;> exact hxl)]; exact hc
      clear hc
      generalize f k = N at *
      have hok := wnTake_ok next m N n0 n1 m1
      have hcv : wnCheck next m N = 0 ∨ wnCheck next m N = 1 ∨ wnCheck next m N = 11 := by
        unfold wnCheck; split <;> (try split) <;> (try split) <;> simp
      go_wp2_with fail
      refine (window_next _ _ next m ht).mono ?_
      rintro e x3 ⟨rfl, rfl⟩
      go_wp2_with fail
      refine (window_check _ _ next m N ht n0 n1 m1 hw).mono ?_
      rintro e x3 ⟨rfl, hg3⟩
      have ht3 := ht.kept hg3 (by simp)
      have hs3 := hs.kept hg3 (by simp)
      replace HB := below_step HB hg3 (by simp)
      clear hg3 ht hs
      go_wp2_with fail
      refine (window_take _ _ next m N ht3 n0 n1 m1 hw).mono ?_
      rintro e x4 ⟨rfl, ht4, hg4⟩
      have hs4 := hs3.kept hg4 (by simp; omega)
      replace HB := below_step HB hg4 hz
      clear hg4 ht3 hs3
      rcases hcv with hc0 | hcv
      · have hfr := hS.fresh hc0
        have hS' := hS.take hc0
        have hlate := hS'.late (n := N) (by simp) (by omega) hok.2.1
        have hgt : N < (wnTake next m N).1 := (hS' N (by simp)).2.1
        have hlook := hs4.look hw
        rw [hfr] at hlook
        rw [hc0]
        clear hc0 hS hfr
        obtain ⟨g1, g2, g3, g4⟩ := hok
        generalize hT : wnTake next m N = T at *
        obtain ⟨next', m'⟩ := T
        clear hT
        simp only at *
        go_wp2_with fail
        refine (window_next _ _ next' m' ht4).mono ?_
        rintro e x5 ⟨rfl, rfl⟩
        have hput := hs4.put hw (by unfold maxLen; omega)
        obtain ⟨x5, hrun, hs5, hg5⟩ := hput
        have ht5 := ht4.kept hg5 (by simp; omega)
        replace HB := below_step HB hg5 hy
        go_wp2_with fail
        refine (window_next _ _ next' m' ht5).mono ?_
        rintro e x6 ⟨rfl, rfl⟩
        go_wp2_with fail
        refine (window_check _ _ next' m' N ht5 (by omega) (by omega) g3 hw).mono ?_
        rintro e x6 ⟨rfl, hg6⟩
        have ht6 := ht5.kept hg6 (by simp)
        have hs6 := hs5.kept hg6 (by simp)
        replace HB := below_step HB hg6 (by simp)
        rw [hlate]
        go_wp2_with fail
        go_roundw
        case rel => exact ⟨k + 1, next', m', n + 1, _, by omega, by go_num, ht6, by omega, by omega, g3, by omega, hs6, hS', HB⟩
        case measure => simp [intOf]; omega
      · have hT : wnTake next m N = (next, m) := by
          unfold wnTake; rw [if_pos (by omega)]
        rw [hT] at ht4
        clear hok hT
        rcases hcv with hcv | hcv
        all_goals
          rw [hcv]
          clear hcv
          go_wp2_with fail
          refine (window_next _ _ next m ht4).mono ?_
          rintro e x5 ⟨rfl, rfl⟩
          go_wp2_with fail
          refine (window_next _ _ next m ht4).mono ?_
          rintro e x5 ⟨rfl, rfl⟩
          go_wp2_with fail
          go_roundw
          case rel => exact ⟨k + 1, next, m, n, _, by omega, by go_num, ht4, by omega, by omega, m1, by omega, hs4, hS, HB⟩
          case measure => simp [intOf]; omega
    · go_wp2_with fail
      go_ret
      exact ⟨rfl, HB⟩

theorem own_ints {w : World} {base : Nat} {e : TypeId} {v : Value} {n : Nat} {xs : List Value} {F : Int} (h : w.ownsRow base e 1 v n xs) (hxs : ∀ u ∈ xs, ∃ n : Int, u = .int .i64 n ∧ -1 ≤ n ∧ n + 1 ≤ F) (hF : F ≤ 1099511627776) :
    ∃ a cap f, v = .slice a n cap ∧ IntsAt .i64 w a n f ∧ (∀ i, i < n → f i + 1 ≤ F) ∧ n ≤ maxLen := by
  rcases h.2 with ⟨rfl, rfl⟩ | ⟨g, cap, cur, rfl, hb, hg, hn, hc, hs, ht⟩
  · exact ⟨none, 0, fun _ => 0, rfl, fun i hi => absurd hi (Nat.not_lt_zero _), fun i hi => absurd hi (Nat.not_lt_zero _), Nat.zero_le _⟩
  · have hl : xs.length = n := by simpa using h.1
    refine ⟨some ⟨g, 0, none⟩, cap, fun i => match xs.getD i (.int .i64 0) with | .int _ q => q | _ => 0, rfl, fun i hi => ?_, fun i hi => ?_, Nat.le_trans hn hc⟩
    · obtain ⟨q, hq, h1, h2⟩ := hxs xs[i] (List.getElem_mem (by omega))
      have e1 : xs[i]? = some (.int .i64 q) := by rw [List.getElem?_eq_getElem (by omega), hq]
      have e2 := h.cells (g := g) rfl i _ e1
      refine ⟨_, rfl, ?_, ?_⟩
      · simp only [List.getD, e1, Option.getD_some]; exact e2
      · simp only [List.getD, e1, Option.getD_some]
        exact wf_i64 (by omega)
    · obtain ⟨q, hq, _, h2⟩ := hxs xs[i] (List.getElem_mem (by omega))
      have e1 : xs[i]? = some (.int .i64 q) := by rw [List.getElem?_eq_getElem (by omega), hq]
      simp only [List.getD, e1, Option.getD_some]
      exact h2

theorem info_int : (Try.prog.info? 3).map (fun i => (i.zero, i.size, i.bytes)) = some (some (.int .i64 0), 1, 8) := by kernel_rfl

set_option maxHeartbeats 1000000 in
theorem walk_WindowAll (a0 : Int) (a1 : Option Addr) (len1 cap1 : Nat) (a2 : Option Addr) (len2 cap2 : Nat) (w0 : (Lit.int .i64 a0).wf = true) (w : World) (r1 : IsRecs [.int .i64] w a1 len1 cap1) (r2 : IsRecs [.int .i64] w a2 len2 cap2) (u1 : len1 * 8 ≤ 140737488351232) (u2 : len2 * 8 ≤ 140737488351232) :
    Calls Try.prog 3 #[.int .i64 a0, .slice a1 len1 cap1, .slice a2 len2 cap2] w fun e w' => e = .returned (.bool true) ∧ Below w.heap.size w w' := by
  obtain ⟨⟨hl1, hm1⟩, f1, hf1⟩ := ints_of r1
  obtain ⟨⟨hl2, hm2⟩, f2, hf2⟩ := ints_of r2
  have b0 := bounds_i64 w0
  clear w0 r1 r2
  have hmm := @run_makeMap Try.prog
  unfold maxLen at hm1 hm2
  go_enter Try.func3, Try.ntmps3
  go_wp2_with fail
  refine (rest_any a0 549755813888 _ b0.1 b0.2 (by omega) (by omega)).mono ?_
  rintro e x2 ⟨rfl, rfl⟩
  have n0 : 0 ≤ a0 % 549755813888 := by omega
  have n1 : a0 % 549755813888 < 549755813888 := by omega
  generalize a0 % 549755813888 = F at *
  clear b0
  go_wp2_with fail
  go_loopw [7, 19] (fun l i wr => ∃ k : Nat, ∃ xs : List Value, k ≤ len2 ∧ i = .int .i64 k ∧ wr.ownsRow w.heap.size 3 1 l k xs ∧ (∀ u ∈ xs, ∃ n : Int, u = .int .i64 n ∧ -1 ≤ n ∧ n + 1 ≤ F) ∧ Below w.heap.size w wr) (fun _ i _ => len2 - (intOf i).toNat)
  case atStart => exact ⟨0, [], by omega, rfl, World.ownsRow_nil _ _ _ _, by simp, Below.refl _ _⟩
  case round =>
    obtain ⟨k, xs, hk, rfl, hown, hxs, HB⟩ := hrel
    by_cases hlk : k < len2
    · obtain ⟨x, rfl, hc, hw⟩ := hf2 k hlk
      have hxl : x.block < w.heap.size := by
        have := World.block_lt_of_cell? w _ hc
        have e : (x.add k).block = x.block := by unfold Addr.add; split <;> rfl
        omega
      have hc' : wr.cell? (x.add k) = some (.int .i64 (f2 k)) := by
        rw [HB.cell (by unfold Addr.add; split <;> exact hxl)]; exact hc
      clear hc
      have bk := bounds_i64 hw
      go_wp2_with fail
      refine (rest_any (f2 k) (F + 1) _ bk.1 bk.2 (by omega) (by omega)).mono ?_
      rintro e x2 ⟨rfl, rfl⟩
      have q0 : 0 ≤ f2 k % (F + 1) := Int.emod_nonneg _ (by omega)
      have q1 : f2 k % (F + 1) < F + 1 := Int.emod_lt_of_pos _ (by omega)
      generalize f2 k % (F + 1) = R at *
      clear hc' bk hw
      go_wp2_with (at_builtin; go_must (refine append_one rfl _ _ 22 rfl w.heap.size 3 (.int .i64 0) 8 Try.underlying22 info_int rfl _ _ _ rfl hown (.int .i64 (R - 1)) rfl rfl (by omega) (by omega) HB.size ?_))
      intro v' w' hown' hg'
      have HB' := own_below HB hown HB.size hg'
      clear HB hown hg'
      go_wp2_with fail
      go_roundw
      case rel => exact ⟨k + 1, _, by omega, by go_num, hown', (by
        intro u hu
        rcases List.mem_append.1 hu with hu | hu
        · exact hxs u hu
        · simp at hu; exact ⟨R - 1, hu, by omega, by omega⟩), HB'⟩
      case measure => simp [intOf]; omega
    · obtain rfl : k = len2 := by omega
      obtain ⟨al, cl, fl, rfl, hfl, hall, hkm⟩ := own_ints hown hxs (by omega)
      clear hown hxs hf2
      go_wp2_with fail
      refine (windows_any wr al k cl fl F hfl hkm n0 hall).mono ?_
      rintro e x1 ⟨next, m, rfl, ht, g0, gF, g1, m1, hg⟩
      have HB1 := below_step HB hg (by simp)
      have hlt := lt_of_obj ht
      have hle := HB.size
      clear hg HB hall hkm hfl
      generalize wr.heap.size = wb at *
      go_wp2_with fail
      have hs := seen_made x1
      have hG : x1.grownBy (x1.alloc (.map #[] 0)) none := World.grownBy_alloc _ _ _
      have ht2 := ht.kept hG (by simp)
      have HB2 := below_step HB1 hG (by simp)
      have hx : ∃ x2, x2 = x1.alloc (.map #[] 0) := ⟨_, rfl⟩
      obtain ⟨x2, hx⟩ := hx
      rw [← hx] at hs ht2 HB2 ⊢
      clear hG HB1 ht hx
      generalize hsb : x1.heap.size = sb at *
      clear hsb x1
      have hz : ∀ k, (some wb : Option Nat) = some k → w.heap.size ≤ k := by simp; omega
      have hy : ∀ k, (some sb : Option Nat) = some k → w.heap.size ≤ k := by simp; omega
      go_loopw [39] (fun i wr => ∃ j : Nat, ∃ next : Int, ∃ m : Nat, ∃ n : Nat, ∃ seen : Int → Bool, j ≤ len1 ∧ i = .int .i64 j ∧ WnAt wr wb next m ∧ 0 ≤ next ∧ next ≤ 1099511627777 ∧ m < 18446744073709551616 ∧ n ≤ j ∧ SeenAt wr sb n seen ∧ WnJust next m F seen ∧ Below w.heap.size w wr) (fun i _ => len1 - (intOf i).toNat)
      case atStart => exact ⟨0, next, m, 0, fun _ => false, by omega, rfl, ht2, g0, g1, m1, by omega, hs, WnJust.start gF, HB2⟩
      case round =>
        clear ht2 hs HB2 g0 g1 gF m1
        obtain ⟨j, next, m, n, seen, hj, rfl, ht, g0, g1, m1, hn, hs, hS, HB⟩ := hrel
        by_cases hlj : j < len1
        · obtain ⟨x, rfl, hc, hw⟩ := hf1 j hlj
          have hxl : x.block < w.heap.size := by
            have := World.block_lt_of_cell? w _ hc
            have e : (x.add j).block = x.block := by unfold Addr.add; split <;> rfl
            omega
          have hc' : wr.cell? (x.add j) = some (.int .i64 (f1 j)) := by
            rw [HB.cell (by unfold Addr.add; split <;> exact hxl)]; exact hc
          clear hc
          have bj := bounds_i64 hw
          go_wp2_with fail
          refine (rest_any (f1 j) 64 _ bj.1 bj.2 (by omega) (by omega)).mono ?_
          rintro e x3 ⟨rfl, rfl⟩
          have q0 : 0 ≤ f1 j % 64 := by omega
          have q1 : f1 j % 64 < 64 := by omega
          generalize f1 j % 64 = R at *
          clear hc' bj hw
          have hwN : (Lit.int .i64 (F + R)).wf = true := wf_i64 (by omega)
          have hlook := hs.look hwN
          have hck := hS.check (x := F + R) (by omega) (by omega) n0 n1
          have hS' := hS.take (n := F + R) (by omega) (by omega) n0 n1
          have hok := wnTake_ok next m (F + R) g0 g1 m1
          clear hS
          cases hsn : seen (F + R)
          all_goals
            rw [hsn] at hlook hck
            clear hsn
            simp only [if_true, if_false, Bool.false_eq_true] at hck
            go_wp2_with fail
            refine (window_take _ _ next m (F + R) ht g0 g1 m1 hwN).mono ?_
            rintro e x4 ⟨rfl, ht4, hg4⟩
            have hs4 := hs.kept hg4 (by simp; omega)
            have HB4 := below_step HB hg4 hz
            obtain ⟨x5, hrun, hs5, hg5⟩ := hs4.put hwN (by unfold maxLen; omega)
            have ht5 := ht4.kept hg5 (by simp; omega)
            have HB5 := below_step HB4 hg5 hy
            obtain ⟨t1, t2, t3, t4⟩ := hok
            clear HB HB4 hg4 hg5 hs hs4 ht ht4
            generalize hT : wnTake next m (F + R) = T at *
            obtain ⟨next', m'⟩ := T
            clear hT
            simp only at *
            rw [hck]
            clear hck
            go_wp2_with fail
            go_roundw
            case rel => exact ⟨j + 1, next', m', n + 1, _, by omega, by go_num, ht5, by omega, by omega, t3, by omega, hs5, hS', HB5⟩
            case measure => simp [intOf]; omega
        · go_wp2_with fail
          go_ret
          exact ⟨rfl, HB⟩

end Go.Proofs.Ytejjlmdpejdajaa
