/- The walk of PathsDrops. -/
import Derived.Test.YtbkgfpebffmffaaPathsEq
import Derived.Test.YtbkgfpebffmffaaRestNat
namespace Go.Proofs.Ytbkgfpebffmffaa
open Go.RowKit
set_option linter.unusedVariables false

theorem cell_same {w w' : World} {b : Nat} {o : Obj} (h : w.heap[b]? = some o) (h' : w'.heap[b]? = some o) (i : Nat) : w'.cell? ⟨b, i, none⟩ = w.cell? ⟨b, i, none⟩ := by
  unfold World.cell?
  simp only [h, h']
theorem prow.pathsG {w w' : World} {base B0 : Nat} {v : Value} {l : List (Pf × Int)} (h : prow w base v l) (g : GT B0 w w') : PathsIn w' v l := by
  obtain ⟨ao, cap, hv, ho, hc⟩ := prow_val h
  refine ⟨ao, cap, hv, fun i hi => ?_⟩
  obtain ⟨x, hx, hP⟩ := hc i hi
  obtain ⟨_, cs, f, hk⟩ := prow_own h x.block (ho x hx)
  have hk' := g.keep _ _ hk (not_IsN rfl (by decide) (by decide))
  have e : (x.add (i * 3)).block = x.block := add_block _ _
  refine ⟨x, hx, lt_of_obj hk', ?_⟩
  obtain ⟨h1, h2, h3⟩ := hP
  have key : ∀ (y : Addr), y.block = x.block → w'.cell? y = w.cell? y := fun y hy => by
    unfold World.cell?
    rw [hy, hk, hk']
  exact ⟨(key _ e).trans h1, (key ⟨(x.add (i * 3)).block, (x.add (i * 3)).off + 1, none⟩ e).trans h2, (key ⟨(x.add (i * 3)).block, (x.add (i * 3)).off + 2, none⟩ e).trans h3⟩
theorem prow.keptN {w w' : World} {base : Nat} {v : Value} {l : List (Pf × Int)} (h : prow w base v l) (g : w.grownBy w' none) : prow w' base v l := h.kept g (by cases v.ownBlock <;> simp)
theorem grow_GT {w a b : World} (h : w.grownBy a none) (g : GT w.heap.size a b) : w.grownBy b none :=
  ⟨g.os.trans h.os, g.tape.trans h.tape, g.output.trans h.output, Nat.le_trans h.size g.size, fun k hk _ => (g.low k (Nat.lt_of_lt_of_le hk h.size) hk).trans (h.block k hk (by simp))⟩
theorem drop_twice (O : Own) (peer : Int) : dropO (dropO O peer) peer = dropO O peer := by
  funext p
  unfold dropO
  by_cases h : O p = some peer
  · rw [if_pos h]; simp
  · rw [if_neg h, if_neg h]
theorem drop_find (O : Own) (peer : Int) (a n : Nat) (v : Int) (h : findP (dropO O peer) a n = some v) : v ≠ peer := by
  obtain ⟨k, _, h2, _⟩ := find_some _ a n v h
  unfold dropO at h2
  split at h2
  · cases h2
  · rename_i h3
    rintro rfl
    exact h3 h2

set_option maxRecDepth 20000 in
set_option maxHeartbeats 4000000 in
theorem walk_PathsDrops (a0 : Option Addr) (len0 cap0 : Nat) (a1 a2 : Int) (w1 : (Lit.int .i64 a1).wf = true) (w2 : (Lit.int .u32 a2).wf = true) (w : World) (r0 : IsRecs stepKs w a0 len0 cap0) :
    Calls Try.prog 5 #[.slice a0 len0 cap0, .int .i64 a1, .int .u32 a2] w fun e w' => e = .returned (.bool true) ∧ Below w.heap.size w w' := by
  obtain ⟨a, rfl, ha⟩ : ∃ z : Nat, a2 = (z : Int) ∧ z < 4294967296 := by have := bounds_u32 w2; exact ⟨a2.toNat, by omega, by omega⟩
  obtain ⟨b0, b1⟩ := wf_i64_of w1
  obtain ⟨r, hr, R⟩ := rest_nat a1 8 8 rfl b0 b1 (by omega) (by omega)
  have A := code_kptable w a0 len0 cap0 r0
  have hwf : (Lit.int .i64 (r : Int)).wf = true := wf_i64 (by omega)
  clear w1 w2 r0 b0 b1
  go_enter Try.func5, Try.ntmps5
  go_wp2_with fail
  (with_reducible refine A.mono ?_)
  rintro e x1 ⟨tb, O, rfl, hT, hg1⟩
  clear A
  have H1 := Lib.hid hT
  have G1 := Lib.hid hg1
  clear hT hg1
  go_wp2_with fail
  (with_reducible refine (R _).mono ?_)
  rintro e x2 ⟨rfl, rfl⟩
  clear R
  have A2 := code_ptall x1 w.heap.size tb O H1.out
  obtain ⟨L, hL⟩ : ∃ L, L = allP O := ⟨_, rfl⟩
  have hl64 : L.length ≤ 64 := by rw [hL]; obtain ⟨_, _, _, _, _, _, h⟩ := H1.out; exact h
  rw [← hL] at A2
  go_wp2_with fail
  (with_reducible refine A2.mono ?_)
  rintro e x3 ⟨v, rfl, hrow, hg3⟩
  have H3 := Lib.hid (H1.out.new hg3)
  have G3 := Lib.hid (grow_trans G1.out hg3)
  obtain ⟨ao, cap, rfl, _, hcells⟩ := prow_val hrow
  have HC := Lib.hid hcells
  have HHL := Lib.hid hL
  clear A2 H1 G1 hg3 hrow hcells hL
  go_wp2_with fail
  go_loopw [8, 23] (fun v8 i wr => ∃ k : Nat, k ≤ L.length ∧ i = .int .i64 k ∧ Hid (prow wr x3.heap.size v8 ((L.take k).filter fun x => x.2 != (r : Int))) ∧ Hid (x3.grownBy wr none)) (fun _ i _ => L.length - (intOf i).toNat)
  case atStart => exact ⟨0, by omega, rfl, Lib.hid (World.ownsRow_nil _ _ _ _), Lib.hid (grow_refl _ _)⟩
  case round =>
    obtain ⟨k, hk, rfl, h8, hg⟩ := hrel
    by_cases hlk : k < L.length
    · obtain ⟨y, hy, hP⟩ := HC.out k hlk
      subst hy
      obtain ⟨c0, c1, c2⟩ := hP.kept hg.out (by simp)
      have hs := take_succ_get L k hlk
      have hflen : ((L.take k).filter fun x => x.2 != (r : Int)).length ≤ 64 := by
        have h1 := List.length_filter_le (fun x : Pf × Int => x.2 != (r : Int)) (L.take k)
        have h2 := List.length_take_le k L
        omega
      have ga := World.grownBy_alloc wr (.cells #[.int .u32 (addrP L[k].1 : Int), .int .i64 (L[k].1.length : Int), .int .i64 L[k].2] 34) none
      have HF : Hid ((L.take (k + 1)).filter (fun x => x.2 != (r : Int)) = (L.take k).filter (fun x => x.2 != (r : Int)) ++ (if L[k].2 != (r : Int) then [L[k]] else [])) := Lib.hid (by
        rw [hs, List.filter_append]
        congr 1
        rw [List.filter_cons]
        split <;> rfl)
      obtain ⟨px, hpx⟩ : ∃ px, px = L[k] := ⟨_, rfl⟩
      rw [← hpx] at c0 c1 c2 ga HF
      generalize (L.take k).filter (fun x => x.2 != (r : Int)) = l8 at *
      have H8 := Lib.hid (h8.out.keptN ga)
      have HG := Lib.hid (grow_trans hg.out ga)
      clear hs hpx hP ga h8
      by_cases hpe : px.2 = (r : Int)
      · have qe : (px.2 != (r : Int)) = false := by rw [hpe]; simp
        have HF2 := Lib.hid (by have := HF.out; rw [qe] at this; simpa using this)
        clear hpe HF
        go_wp2_with fail
        go_roundw
        case rel => exact ⟨k + 1, by omega, by go_num, Lib.hid (by rw [HF2.out]; exact H8.out), HG⟩
        case measure => simp [intOf]; omega
      · have qe : (px.2 != (r : Int)) = true := by rw [bne_iff_ne]; exact hpe
        have HF2 := Lib.hid (by have := HF.out; rw [qe] at this; simpa using this)
        clear HF
        have hbN : Blk ((wr.alloc (.cells #[.int .u32 (addrP px.1 : Int), .int .i64 (px.1.length : Int), .int .i64 px.2] 34)).alloc (.cells #[.int .u32 (addrP px.1 : Int), .int .i64 (px.1.length : Int), .int .i64 px.2] 34)) (wr.heap.size + 1) 34 (pthC px) := by
          have := Blk.new (wr.alloc (.cells #[.int .u32 (addrP px.1 : Int), .int .i64 (px.1.length : Int), .int .i64 px.2] 34)) 34 (pthC px)
          rwa [World.size_alloc] at this
        go_wp2_with (at_builtin; go_must (refine append_pth rfl _ _ rfl x3.heap.size u8 l8 rfl (prow.keptN H8.out (World.grownBy_alloc _ _ none)) px (wr.heap.size + 1) hbN rfl (by omega) (by have := hg.out.size; simp; omega) ?_); intro v' w' hr' hg')
        have hg'' := grow_alloc (grow_alloc (grow_refl wr none) (.cells #[.int .u32 (addrP px.1 : Int), .int .i64 (px.1.length : Int), .int .i64 px.2] 34)) (.cells #[.int .u32 (addrP px.1 : Int), .int .i64 (px.1.length : Int), .int .i64 px.2] 34)
        have HG' : Hid (x3.grownBy w' none) := Lib.hid (by
          rcases hb0 : u8.ownBlock with _ | kb
          · rw [hb0] at hg'; exact grow_trans (grow_trans hg.out hg'') hg'
          · rw [hb0] at hg'; exact grow_trans_new (grow_trans hg.out hg'') hg' (prow_own H8.out kb hb0).1)
        exact ⟨⟨k + 1, by omega, by go_num, Lib.hid (by rw [HF2.out]; exact hr'), HG'⟩, by simp [intOf]; omega⟩
    · obtain rfl : k = L.length := by omega
      rw [List.take_length] at h8
      obtain ⟨Rs, hRs⟩ : ∃ Rs, Rs = L.filter (fun x => x.2 != (r : Int)) := ⟨_, rfl⟩
      rw [← hRs] at h8
      have hRd : Rs = allP (dropO O (r : Int)) := by rw [hRs, all_drop, HHL.out]
      have hRl : Rs.length ≤ L.length := by rw [hRs]; exact List.length_filter_le _ _
      obtain ⟨bo, cap8, hu8, _, _⟩ := prow_val h8.out
      subst hu8
      have H4 := Lib.hid (H3.out.new hg.out)
      have G4 := Lib.hid (grow_trans G3.out hg.out)
      have A4 := code_ptall wr w.heap.size tb O H4.out
      rw [← HHL.out] at A4
      have HRD := Lib.hid hRd
      clear hRs hRd hg H3 G3
      go_wp2_with fail
      (with_reducible refine A4.mono ?_)
      rintro e x4 ⟨v4, rfl, hrow4, hg4⟩
      obtain ⟨co, cap4, hv4, _, _⟩ := prow_val hrow4
      subst hv4
      have H8 := Lib.hid (h8.out.keptN hg4)
      have H5 := Lib.hid (H4.out.new hg4)
      have G5 := Lib.hid (grow_trans G4.out hg4)
      have A5 := code_ptdrop x4 w.heap.size tb O H5.out (r : Int) hwf
      rw [← HHL.out, ← HRD.out] at A5
      have e2 : ((L.length - Rs.length : Nat) : Int) = (L.length : Int) - (Rs.length : Int) := by omega
      rw [e2] at A5
      have q5 : ((L.length : Int) - (Rs.length : Int) != (L.length : Int) - (Rs.length : Int)) = false := by simp
      have hRl64 : (Rs.length : Int) ≤ 64 := by omega
      have hRl2 : (Rs.length : Int) ≤ (L.length : Int) := by omega
      clear A4 H4 G4 hrow4 hg4 h8 e2
      go_wp2_with fail
      (with_reducible refine A5.mono ?_)
      rintro e x5 ⟨rfl, hT5, hg5⟩
      have H6 := Lib.hid hT5
      have P8 := Lib.hid (H8.out.pathsG hg5)
      have G6 := Lib.hid (grow_GT G5.out hg5)
      have A6 := code_ptall x5 w.heap.size tb _ H6.out
      rw [← HRD.out] at A6
      clear A5 H5 G5 hT5 hg5 H8
      go_wp2_with fail
      (with_reducible refine A6.mono ?_)
      rintro e x6 ⟨v6, rfl, hrow6, hg6⟩
      have A7 := code_kpeq x6 v6 _ Rs hrow6.paths (P8.out.keptN hg6) (by omega)
      have H7 := Lib.hid (H6.out.new hg6)
      have G7 := Lib.hid (grow_trans G6.out hg6)
      clear A6 H6 G6 hrow6 hg6 P8
      go_wp2_with fail
      (with_reducible refine A7.mono ?_)
      rintro e x7 ⟨rfl, hg7⟩
      have H8 := Lib.hid (H7.out.new hg7)
      have G8 := Lib.hid (grow_trans G7.out hg7)
      have A8 := code_ptdrop x7 w.heap.size tb _ H8.out (r : Int) hwf
      rw [drop_twice] at A8
      have e3 : (((allP (dropO O (r : Int))).length - (allP (dropO O (r : Int))).length : Nat) : Int) = 0 := by omega
      rw [e3] at A8
      clear A7 H7 G7 hg7 e3
      go_wp2_with fail
      (with_reducible refine A8.mono ?_)
      rintro e x8 ⟨rfl, hT8, hg8⟩
      have A9 := code_tbfind x8 w.heap.size tb _ hT8 a ha
      have G9 := Lib.hid (grow_GT G8.out hg8)
      have hd := drop_find O (r : Int) a 32
      unfold retF at A9
      clear A8 H8 G8 hT8 hg8
      generalize findP (dropO O (r : Int)) a 32 = F at *
      cases F with
      | none =>
        clear hd
        go_wp2_with fail
        (with_reducible refine A9.mono ?_)
        rintro e x9 ⟨rfl, hg9⟩
        have HG := Lib.hid (grow_trans G9.out hg9)
        clear A9 hg9 G9
        go_wp2_with fail
        go_ret
        exact ⟨rfl, grow_below HG.out _ (Nat.le_refl _) (by simp)⟩
      | some fv =>
        have qe : (fv != (r : Int)) = true := by rw [bne_iff_ne]; exact hd fv rfl
        clear hd
        go_wp2_with fail
        (with_reducible refine A9.mono ?_)
        rintro e x9 ⟨rfl, hg9⟩
        have HG := Lib.hid (grow_trans G9.out hg9)
        clear A9 hg9 G9
        go_wp2_with fail
        go_ret
        exact ⟨rfl, grow_below HG.out _ (Nat.le_refl _) (by simp)⟩

end Go.Proofs.Ytbkgfpebffmffaa
