/- Take of a bucket. -/
import Derived.Test.YtcimcagplodpeaaBucket
namespace Go.Proofs.Ytcimcagplodpeaa
open Go.RowKit Go.Maps
set_option linter.unusedVariables false

/-- A bucket: the time, and who has how many turns left; a: the struct's block, b: the map's. -/
def BkB (w : World) (a b : Nat) (now : Int) (n : Nat) (m : Nat → Option Int) : Prop :=
  ∃ D, w.heap[a]? = some (.cells #[.int .i64 now, .map (some b)] 76 (0, 0)) ∧ bmap w b n D ∧ Rep D m ∧ ∀ x c, m x = some c → 0 ≤ c ∧ c ≤ 4

def Bk (w : World) (base : Nat) (a : Nat) (now : Int) (n : Nat) (m : Nat → Option Int) : Prop := ∃ b, base ≤ a ∧ base ≤ b ∧ BkB w a b now n m

/-- Just these two blocks may have turned. -/
def Two (a b : Nat) (w w' : World) : Prop := ∃ W, w.grownBy W (some a) ∧ W.grownBy w' (some b)

theorem Two.below {a b base : Nat} {w w' : World} (h : Two a b w w') (h0 : base ≤ w.heap.size) (ha : base ≤ a) (hb : base ≤ b) : Below base w w' := by
  obtain ⟨W, h1, h2⟩ := h
  exact (grow_below h1 base h0 (fun k e => by cases e; exact ha)).trans (grow_below h2 base (Nat.le_trans h0 h1.size) (fun k e => by cases e; exact hb))

theorem BkB.kept {w w' : World} {a b : Nat} {now : Int} {n : Nat} {m : Nat → Option Int} {r : Option Nat} (h : BkB w a b now n m) (g : w.grownBy w' r) (ha : some a ≠ r) (hb : some b ≠ r) : BkB w' a b now n m := by
  obtain ⟨D, hc, hm, hr, hbd⟩ := h
  exact ⟨D, grow_obj g hc ha, hm.kept g hb, hr, hbd⟩

theorem BkB.kept2 {w w' : World} {a b a2 b2 : Nat} {now : Int} {n : Nat} {m : Nat → Option Int} (h : BkB w a b now n m) (g : Two a2 b2 w w') (h1 : a ≠ a2) (h2 : a ≠ b2) (h3 : b ≠ a2) (h4 : b ≠ b2) : BkB w' a b now n m := by
  obtain ⟨W, g1, g2⟩ := g
  exact (h.kept g1 (by simpa using h1) (by simpa using h3)).kept g2 (by simpa using h2) (by simpa using h4)

/-- Behind a time: all have more, and who has all is struck. -/
def later (m : Nat → Option Int) (more : Int) : Nat → Option Int := fun x => ((m x).map (· + more)).filter fun c => decide (c < 5)

/-- The answer, and what is left: 'full': there are sixteen. -/
def taken (m : Nat → Option Int) (x : Nat) (full : Bool) : Int × (Nat → Option Int) :=
  match m x with
  | some c => if c = 0 then (15, m) else (0, upd m x (some (c - 1)))
  | none => if full = true then (9, m) else (0, upd m x (some 4))

theorem good_filter {D : Dm} {pd : Lit → Dm → Bool} (g : Good D) : Good (Lib.deleteFuncD pd D) := by
  obtain ⟨es, rfl, h1, h2⟩ := g
  exact ⟨_, rfl, h1.filter _, fun p hp => h2 p (List.mem_filter.1 hp).1⟩

theorem later_bd {m : Nat → Option Int} {more : Int} (h : ∀ x c, m x = some c → 0 ≤ c ∧ c ≤ 4) (h0 : 0 ≤ more) : ∀ x c, later m more x = some c → 0 ≤ c ∧ c ≤ 4 := by
  intro x c hc
  unfold later at hc
  cases hm : m x with
  | none => simp [hm] at hc
  | some d =>
    have := h x d hm
    simp [hm, Option.filter_some] at hc
    omega

theorem upd_bd {m : Nat → Option Int} {x : Nat} {v : Int} (h : ∀ x c, m x = some c → 0 ≤ c ∧ c ≤ 4) (hv : 0 ≤ v ∧ v ≤ 4) : ∀ y c, upd m x (some v) y = some c → 0 ≤ c ∧ c ≤ 4 := by
  intro y c hc
  unfold upd at hc
  split at hc
  · injection hc with e
    omega
  · exact h y c hc

theorem setCell_other (w : World) (a i : Nat) (v : Value) (h : i ≠ a) : (w.setCell ⟨a, 0, none⟩ v).heap[i]? = w.heap[i]? := by
  simp [World.setCell, Array.getElem?_modify, Ne.symm h]

theorem zeroI (w : World) : (zeroValue 3).run Try.prog w = .ok (.int .i64 0) w := by kernel_rfl

set_option maxHeartbeats 4000000 in
theorem code_takeB (w : World) (a b : Nat) (now t : Int) (n : Nat) (m : Nat → Option Int) (x : Nat) (hx : x < 4294967296) (full : Bool) (hB : BkB w a b now n m) (hn : n < 1000000000) (h0 : 0 ≤ now) (h1 : now ≤ t) (h2 : t ≤ 1099511627776)
    (hf : later m (min (t - now) 5) x = none → ∀ D, Good D → Rep D (later m (min (t - now) 5)) → (Maps.size D = 16 ↔ full = true)) :
    Calls Try.prog 28 #[.pointer (some ⟨a, 0, none⟩), .int .u32 x, .int .i64 t] w fun e w' => e = .returned (.int .i64 (taken (later m (min (t - now) 5)) x full).1) ∧
      BkB w' a b t (n + 1) (taken (later m (min (t - now) 5)) x full).2 ∧ Two a b w w' := by
  obtain ⟨D, hc, hm, hr, hbd⟩ := hB
  have c0 := obj_cell hc 0
  have c1 := obj_cell hc 1
  have f0 := obj_frozen hc 0
  have hab : b ≠ a := by
    intro e
    subst e
    obtain ⟨es, clock, hb, _⟩ := hm
    rw [hb] at hc
    cases hc
  have hm1 := hm.setCell (a := ⟨a, 0, none⟩) hab (.int .i64 t)
  have hc1 := obj_setCell hc 0 (.int .i64 t)
  have HF := Lib.hid hf
  clear hf
  have hmore : ∃ more, more = min (t - now) 5 ∧ 0 ≤ more ∧ more ≤ 5 := ⟨_, rfl, by omega, by omega⟩
  obtain ⟨more, hmore, m0, m5⟩ := hmore
  rw [← hmore] at HF ⊢
  have s1 : IntKind.i64.wrap (t - now) = t - now := IntWalk.i64_in _ (by omega)
  have g1 : ¬ t < now := by omega
  have g2 : ¬ 1099511627776 < t := by omega
  have hcase : (5 < t - now ∧ more = 5) ∨ (t - now ≤ 5 ∧ t - now = more) := by omega
  clear hmore
  have hrest : True := trivial
  rcases hcase with ⟨q1, q2⟩ | ⟨q1, q2⟩
  all_goals
    go_enter Try.func28, Try.ntmps28
    go_wp2_with (first
      | (at_range; refine wpList_range_own _ rfl _ 74 rfl 49 3 lawK Try.underlying74 _ b n _ rfl hm1 ?_; intro w0 hrg0 hg0 hs0)
      | fail)
  all_goals
    have c1' := obj_cell hc1 1
    have hsz : (w.setCell ⟨a, 0, none⟩ (.int .i64 t)).heap.size = w.heap.size := by simp
    rw [hsz] at hrg0 hs0
    have hWB : w.grownBy (w.setCell ⟨a, 0, none⟩ (.int .i64 t)) (some a) := grow_setCell (grow_refl _ _) _ _
    have hwa0 : a < w.heap.size := (Array.getElem?_eq_some_iff.1 hc).1
    generalize w.setCell ⟨a, 0, none⟩ (.int .i64 t) = W at *
    have hWa : a < W.heap.size := (Array.getElem?_eq_some_iff.1 hc1).1
    (try go_frame)
    go_loopw [8] (fun _ wr => ∃ (left : Lit → Bool) (cnt : Nat) (D' : Dm), wr.ranges Try.prog 49 (plainElem Try.prog 3) b w.heap.size n D' left cnt ∧ Rep D' (added m more left) ∧ W.grownBy wr (some b))
      (fun _ wr => wr.rangeLeft b w.heap.size)
    case atStart => exact ⟨_, _, D, hrg0, rep_start hr more, hg0.but _⟩
    case round =>
      obtain ⟨left, cnt, D', hrg, hrep, hgw⟩ := hrel
      go_wp2_with (first
        | (at_next; refine wpList_next_ranges_ii _ rfl _ rfl 49 3 .u32 .i64 lawK Try.underlying49 Try.underlying3 b w.heap.size n _ _ _ rfl hrg ?_ ?_)
        | fail)
      · intro _ hl0
        have hm' := hrg.owns
        have hr' := rep_filter (rep_end hrep hl0) (good_of hm' Try.underlying49 Try.underlying3) pd5 pd5_nm
        have hr2 : Rep (Lib.deleteFuncD pd5 D') (later m more) := hr'
        have cA : wr.heap[a]? = _ := (hgw.block a hWa (by simpa using fun e => hab e.symm)).trans hc1
        have cA1 := obj_cell cA 1
        have hwa : a < wr.heap.size := (Array.getElem?_eq_some_iff.1 cA).1
        clear hr' hrep hrg0 hg0 hrg
        have hkx : keyOf Try.prog 49 (.int .u32 (x : Int)) = some (.int .u32 (x : Int)) := keyOf_int_mk Try.underlying49 (wf_u32 (by omega))
        have hgd : Good (Lib.deleteFuncD pd5 D') := by
          exact good_filter (good_of hm' Try.underlying49 Try.underlying3)
        cases hx2 : later m more x with
        | none =>
          have hs3 : has (Lib.deleteFuncD pd5 D') (.int .u32 (x : Int)) = false := by have := (hr2 x hx).1; rw [hx2] at this; exact this
          have hsz2 := HF.out hx2 _ hgd hr2
          cases full with
          | true =>
            have hsz3 : ((Maps.size (Lib.deleteFuncD pd5 D') : Nat) : Int) = 16 := by have := hsz2.2 rfl; omega
            go_wp2_with (first
              | (go_at_call 36; refine (maps_del _ b n D' hm').mono ?_; rintro e w2 ⟨rfl, hm2, hg2⟩; have cB : w2.heap[a]? = _ := (hg2.block a hwa (by simpa using fun e => hab e.symm)).trans cA; have cB1 := obj_cell cB 1; have hlen := hm2.len Try.underlying74 3; have hgW := hgw.andThen hg2 (fun j hj => by cases hj; exact Or.inr rfl))
              | (at_lookup; refine wpList_lookup_own_ok_int _ rfl _ _ 74 rfl 49 3 .i64 lawK Try.underlying74 Try.underlying3 (zeroI _) b n _ rfl hm2 _ _ rfl hkx ?_; intro c3 hat3 hwc3; rw [hs3])
              | fail)
            go_ret
            refine ⟨by rw [taken, hx2]; rfl, ?_, ?_⟩
            · rw [taken, hx2]
              exact ⟨_, cB, hm2.mono (by omega), hr2, later_bd hbd m0⟩
            · exact ⟨_, hWB, hgW⟩
          | false =>
            have hsz3 : ¬ ((Maps.size (Lib.deleteFuncD pd5 D') : Nat) : Int) = 16 := by
              intro e
              have := hsz2.1 (by omega)
              cases this
            go_wp2_with (first
              | (go_at_call 36; refine (maps_del _ b n D' hm').mono ?_; rintro e w2 ⟨rfl, hm2, hg2⟩; have cB : w2.heap[a]? = _ := (hg2.block a hwa (by simpa using fun e => hab e.symm)).trans cA; have cB1 := obj_cell cB 1; have hlen := hm2.len Try.underlying74 3; have hgW := hgw.andThen hg2 (fun j hj => by cases hj; exact Or.inr rfl))
              | (at_lookup; refine wpList_lookup_own_ok_int _ rfl _ _ 74 rfl 49 3 .i64 lawK Try.underlying74 Try.underlying3 (zeroI _) b n _ rfl hm2 _ _ rfl hkx ?_; intro c3 hat3 hwc3; rw [hs3])
              | (at_mapUpdate; refine wpList_mapUpdate_in _ rfl _ _ _ 74 rfl 49 3 lawK Try.underlying74 (plainElem Try.prog 3) b n _ rfl hm2 (by unfold maxLen; omega) _ _ _ rfl rfl hkx (nm 4) [] (plainElem_int Try.underlying3 (by decide)) ?_; intro w3 hm3 ht3; go_frame)
              | fail)
            go_ret
            have cC : w3.heap[a]? = _ := (ht3.grown.block a (Array.getElem?_eq_some_iff.1 cB).1 (by simpa using fun e => hab e.symm)).trans cB
            have hgX := hgW.andThen ht3.grown (fun j hj => by cases hj; exact Or.inr rfl)
            refine ⟨by rw [taken, hx2]; rfl, ?_, ?_⟩
            · rw [taken, hx2]
              exact ⟨_, cC, hm3, rep_put hr2 hm2.isMap hx 4, upd_bd (later_bd hbd m0) (by omega)⟩
            · exact ⟨_, hWB, hgX⟩
        | some c =>
          have hs3 : has (Lib.deleteFuncD pd5 D') (.int .u32 (x : Int)) = true := by have := (hr2 x hx).1; rw [hx2] at this; exact this
          have hat : ∀ z, (Lib.deleteFuncD pd5 D').atKey (.int .u32 (x : Int)) z = .lit (.int .i64 c) := (hr2 x hx).2 c hx2
          have hcb := later_bd hbd m0 x c hx2
          by_cases hc0 : c = 0
          · go_wp2_with (first
              | (go_at_call 36; refine (maps_del _ b n D' hm').mono ?_; rintro e w2 ⟨rfl, hm2, hg2⟩; have cB : w2.heap[a]? = _ := (hg2.block a hwa (by simpa using fun e => hab e.symm)).trans cA; have cB1 := obj_cell cB 1; have hgW := hgw.andThen hg2 (fun j hj => by cases hj; exact Or.inr rfl))
              | (at_lookup; refine wpList_lookup_own_ok_int _ rfl _ _ 74 rfl 49 3 .i64 lawK Try.underlying74 Try.underlying3 (zeroI _) b n _ rfl hm2 _ _ rfl hkx ?_; intro c3 hat3 hwc3; rw [hs3]; (obtain rfl : c = c3 := by rw [hat] at hat3; injection hat3 with e; injection e with _ e))
              | fail)
            go_ret
            refine ⟨by rw [taken, hx2]; simp [hc0], ?_, ?_⟩
            · rw [taken, hx2]
              simp only [hc0, if_true]
              exact ⟨_, cB, hm2.mono (by omega), hr2, later_bd hbd m0⟩
            · exact ⟨_, hWB, hgW⟩
          · have s3 : IntKind.i64.wrap (c - 1) = c - 1 := IntWalk.i64_in _ (by omega)
            go_wp2_with (first
              | (go_at_call 36; refine (maps_del _ b n D' hm').mono ?_; rintro e w2 ⟨rfl, hm2, hg2⟩; have cB : w2.heap[a]? = _ := (hg2.block a hwa (by simpa using fun e => hab e.symm)).trans cA; have cB1 := obj_cell cB 1; have hgW := hgw.andThen hg2 (fun j hj => by cases hj; exact Or.inr rfl))
              | (at_lookup; refine wpList_lookup_own_ok_int _ rfl _ _ 74 rfl 49 3 .i64 lawK Try.underlying74 Try.underlying3 (zeroI _) b n _ rfl hm2 _ _ rfl hkx ?_; intro c3 hat3 hwc3; rw [hs3]; (obtain rfl : c = c3 := by rw [hat] at hat3; injection hat3 with e; injection e with _ e))
              | (at_mapUpdate; refine wpList_mapUpdate_in _ rfl _ _ _ 74 rfl 49 3 lawK Try.underlying74 (plainElem Try.prog 3) b n _ rfl hm2 (by unfold maxLen; omega) _ _ _ rfl rfl hkx (nm (c - 1)) [] (plainElem_int Try.underlying3 (wf_i64 (by omega))) ?_; intro w3 hm3 ht3; go_frame)
              | fail)
            go_ret
            have cC : w3.heap[a]? = _ := (ht3.grown.block a (Array.getElem?_eq_some_iff.1 cB).1 (by simpa using fun e => hab e.symm)).trans cB
            have hgX := hgW.andThen ht3.grown (fun j hj => by cases hj; exact Or.inr rfl)
            refine ⟨by rw [taken, hx2]; simp [hc0], ?_, ?_⟩
            · rw [taken, hx2]
              simp only [hc0, if_false]
              exact ⟨_, cC, hm3, rep_put hr2 hm2.isMap hx (c - 1), upd_bd (later_bd hbd m0) (by omega)⟩
            · exact ⟨_, hWB, hgX⟩
      · intro y c w1 cnt1 hwx hwc hlx hat hrg1 hlt hg1 hs1 hen
        have hgw1 := hgw.andThen hg1 (fun j hj => by cases hj; exact Or.inl (by omega))
        obtain ⟨z, rfl, hz⟩ : ∃ z : Nat, y = (z : Int) ∧ z < 4294967296 := by have := bounds_u32 hwx; exact ⟨y.toNat, by omega, by omega⟩
        have hlz : left (ky z) = true := hlx
        have hmz : m z = some c := by
          have r1 := hrep z hz
          have r2 : has D' (ky z) = true := has_true_of_atKey hat
          rw [r2] at r1
          unfold added at r1
          cases hm0 : m z with
          | none => simp [hm0] at r1
          | some d =>
            simp only [hm0, Option.map_some, hlz, if_true] at r1
            have r3 := r1.2 d rfl .nil
            have r4 := hat .nil
            unfold ky at r3
            rw [r4] at r3
            unfold nm at r3
            injection r3 with r3
            injection r3 with _ r3
            rw [r3]
        have hcb := hbd z c hmz
        have hin : has D' (.int .u32 (z : Int)) = true := has_true_of_atKey hat
        have hkey := keyOf_int_mk Try.underlying49 hwx
        have cB : w1.cell? ⟨a, 1, none⟩ = some (.map (some b)) := by
          have e := hgw1.block a hWa (by simpa using fun e => hab e.symm)
          rw [hc1] at e
          exact obj_cell e 1
        have s2 : IntKind.i64.wrap (c + more) = c + more := IntWalk.i64_in _ (by omega)
        have hrep2 := rep_step hrep hrg1.owns.isMap hz hlz hmz
        have hw2 : (Lit.int .i64 (c + more)).wf = true := wf_i64 (by omega)
        have hn2 : n < maxLen := by unfold maxLen; omega
        go_wp2_with (first
          | (at_lookup; refine wpList_lookup_own_int _ rfl _ _ 74 rfl 49 3 .i64 lawK Try.underlying74 Try.underlying3 (zeroI _) b n _ rfl hrg1.owns _ _ rfl hkey ?_; intro c2 hat2 hwc2; (obtain rfl : c = c2 := by rw [hat] at hat2; injection hat2 with e; injection e with _ e))
          | (at_mapUpdate; refine wpList_store_ranges rfl _ _ _ 74 rfl 49 3 lawK Try.underlying74 (plainElem Try.prog 3) b w.heap.size n _ _ _ rfl hrg1 hn2 _ _ _ rfl rfl hkey hin (nm (c + more)) [] ?hv ?_; (case hv => refine (congrArg (plainElem Try.prog 3) ?_).trans (plainElem_int Try.underlying3 hw2); first | rfl | (rw [q2]; rfl) | (simp only [Act.eval, List.getD_toArray, Array.getD_eq_getD_getElem?]; simp; trace_state; sorry)); intro w2 hrg2 hturn; go_frame)
          | fail)
        go_roundw
        case rel => exact ⟨_, cnt1, _, hrg2, hrep2, hgw1.andThen hturn.grown (fun j hj => by cases hj; exact Or.inr rfl)⟩
        case measure => rw [hrg2.left_eq, hrg.left_eq]; omega

theorem code_take (w : World) (base : Nat) (a : Nat) (now t : Int) (n : Nat) (m : Nat → Option Int) (x : Nat) (hx : x < 4294967296) (full : Bool) (hB : Bk w base a now n m) (hbase : base ≤ w.heap.size) (hn : n < 1000000000) (h0 : 0 ≤ now) (h1 : now ≤ t) (h2 : t ≤ 1099511627776)
    (hf : later m (min (t - now) 5) x = none → ∀ D, Good D → Rep D (later m (min (t - now) 5)) → (Maps.size D = 16 ↔ full = true)) :
    Calls Try.prog 28 #[.pointer (some ⟨a, 0, none⟩), .int .u32 x, .int .i64 t] w fun e w' => e = .returned (.int .i64 (taken (later m (min (t - now) 5)) x full).1) ∧
      Bk w' base a t (n + 1) (taken (later m (min (t - now) 5)) x full).2 ∧ Below base w w' := by
  obtain ⟨b, ba, bb, hB⟩ := hB
  refine (code_takeB w a b now t n m x hx full hB hn h0 h1 h2 hf).mono ?_
  rintro e w' ⟨he, hb, ht⟩
  exact ⟨he, ⟨b, ba, bb, hb⟩, ht.below hbase ba bb⟩

end Go.Proofs.Ytcimcagplodpeaa
