/- The walk of BucketFair: what it leans on. -/
import Derived.Test.YtcimcagplodpeaaFull
import Derived.Test.YtcimcagplodpeaaRest
import Derived.Test.YtcimcagplodpeaaSteps
namespace Go.Proofs.Ytcimcagplodpeaa
open Go.RowKit Go.Maps
set_option linter.unusedVariables false

def Bd (m : Nat → Option Int) : Prop := ∀ x c, m x = some c → 0 ≤ c ∧ c ≤ 4
def InF (F : Nat) (m : Nat → Option Int) : Prop := ∀ x, x < 4294967296 → (m x).isSome = true → off32 F x < 16
/-- How many turns one has. -/
def GG (m : Nat → Option Int) (x : Nat) : Int := (m x).getD 5

theorem gg_bd {m : Nat → Option Int} (h : Bd m) (x : Nat) : 0 ≤ GG m x ∧ GG m x ≤ 5 := by
  unfold GG
  cases e : m x with
  | none => simp
  | some c => have := h x c e; simp; omega

theorem gg_later {m : Nat → Option Int} (h : Bd m) (x : Nat) (d : Int) (hd : 0 ≤ d) : GG (later m (min d 5)) x = min (GG m x + d) 5 := by
  unfold GG later
  cases e : m x with
  | none => simp; omega
  | some c =>
    have := h x c e
    simp only [Option.map_some, Option.filter_some, Option.getD_some]
    by_cases q : c + min d 5 < 5
    · simp [q]; omega
    · simp [q]; omega

theorem inF_later {F : Nat} {m : Nat → Option Int} (h : InF F m) (d : Int) : InF F (later m d) := by
  intro x hx hs
  refine h x hx ?_
  unfold later at hs
  cases e : m x with
  | none => simp [e] at hs
  | some c => rfl

theorem taken_same {m : Nat → Option Int} (h : Bd m) (x : Nat) : (taken m x false).1 = (if GG m x = 0 then 15 else 0) ∧ GG (taken m x false).2 x = max (GG m x - 1) 0 := by
  unfold taken GG
  cases e : m x with
  | none =>
    simp [upd]
    omega
  | some c =>
    have := h x c e
    by_cases q : c = 0
    · subst q
      simp [e]
      omega
    · simp only [q, if_false, Option.getD_some]
      refine ⟨trivial, ?_⟩
      simp [upd]
      omega

theorem taken_other {m : Nat → Option Int} (x y : Nat) (hn : y ≠ x) : GG (taken m x false).2 y = GG m y := by
  unfold taken GG
  cases e : m x with
  | none => simp [upd, hn]
  | some c =>
    by_cases q : c = 0
    · simp [q]
    · simp [q, upd, hn]

theorem inF_taken {F : Nat} {m : Nat → Option Int} (h : InF F m) (x : Nat) (hx : off32 F x < 16) : InF F (taken m x false).2 := by
  intro y hy hs
  by_cases e : y = x
  · rw [e]; exact hx
  · refine h y hy ?_
    unfold taken at hs
    cases e2 : m x with
    | none => simpa [e2, upd, e] using hs
    | some c =>
      by_cases q : c = 0
      · simpa [e2, q] using hs
      · simpa [e2, q, upd, e] using hs

theorem fifteen : ∀ o, o < 16 → ((List.range 16).filter (fun j => decide (j ≠ o))).length = 15 := by decide

theorem inF_small {F : Nat} (hF : F < 4294967296) {m : Nat → Option Int} (h : InF F m) (x : Nat) (hx : x < 4294967296) (ho : off32 F x < 16) (hn : m x = none) (D : Dm) (g : Good D) (r : Rep D m) : Maps.size D = 16 ↔ false = true := by
  have h1 := size_le_of g r (((List.range 16).filter (fun j => decide (j ≠ off32 F x))).map (ky32 F)) (fun y hy hs => by
    have h2 := h y hy hs
    refine List.mem_map.2 ⟨off32 F y, List.mem_filter.2 ⟨List.mem_range.2 h2, ?_⟩, ?_⟩
    · simp only [decide_eq_true_eq]
      intro e
      have : y = x := by unfold off32 at e; omega
      subst this
      rw [hn] at hs
      cases hs
    · unfold ky32 off32
      omega)
  rw [List.length_map, fifteen _ ho] at h1
  constructor
  · intro h; omega
  · intro h; cases h

/-- What a turn of one of the sixteen makes of a bucket. -/
def TurnOf (F x : Nat) (w : World) (a b : Nat) (t : Int) (n : Nat) (v vx : Int) (e : Ending) (w' : World) : Prop :=
  ∃ m', e = .returned (.int .i64 (if vx = 0 then 15 else 0)) ∧ BkB w' a b t (n + 1) m' ∧ InF F m' ∧ GG m' F = (if x = F then max (v - 1) 0 else v) ∧ Two a b w w'

theorem take_in (w : World) (a b : Nat) (now t : Int) (n : Nat) (m : Nat → Option Int) (F x : Nat) (hF : F < 4294967296) (hx : x < 4294967296) (ho : off32 F x < 16) (hB : BkB w a b now n m) (hi : InF F m) (hn : n < 1000000000) (h0 : 0 ≤ now) (h1 : now ≤ t) (h2 : t ≤ 1099511627776)
    (v vx : Int) (hv : v = min (GG m F + (t - now)) 5) (hvx : vx = min (GG m x + (t - now)) 5) :
    Calls Try.prog 28 #[.pointer (some ⟨a, 0, none⟩), .int .u32 x, .int .i64 t] w (TurnOf F x w a b t n v vx) := by
  have hbd : Bd m := by obtain ⟨D, _, _, _, h⟩ := hB; exact h
  have hbl : Bd (later m (min (t - now) 5)) := later_bd hbd (by omega)
  have hil := inF_later hi (min (t - now) 5)
  have h := code_takeB w a b now t n m x hx false hB hn h0 h1 h2 (fun hnone D g r => inF_small hF hil x hx ho hnone D g r)
  refine h.mono ?_
  rintro e w' ⟨he, hb, ht⟩
  obtain ⟨t1, t2⟩ := taken_same hbl x
  rw [gg_later hbd x _ (by omega), ← hvx] at t1 t2
  refine ⟨_, by rw [he, t1], hb, inF_taken hil x ho, ?_, ht⟩
  by_cases e2 : x = F
  · subst e2
    rw [if_pos rfl, t2, hv, hvx]
  · rw [if_neg e2, taken_other x F (Ne.symm e2), gg_later hbd F _ (by omega), hv]

set_option maxHeartbeats 400000 in
theorem step_of (w : World) (v : StepV) (hv : v.ok) (n : Int) (h0 : 0 < n) (h1 : n ≤ 9223372036854775807) :
    Calls Try.prog 27 #[.agg v.cells, .int .i64 n] w fun e w' => e = .returned (.int .i64 (v.kind % n)) ∧ w.grownBy w' none := by
  have b := bounds_i64 hv.1
  unfold StepV.cells
  go_enter Try.func27, Try.ntmps27
  go_wp2_with fail
  refine (rest_any v.kind n _ b.1 b.2 h0 h1).mono ?_
  rintro e x2 ⟨rfl, rfl⟩
  go_wp2_with fail
  go_ret
  exact ⟨rfl, by first | exact grow_alloc (grow_refl _ _) _ | exact grow_refl _ _⟩

set_option maxHeartbeats 2000000 in
theorem walk_BucketFair (a0 : Int) (a1 : Option Addr) (len1 cap1 : Nat) (w0 : (Lit.int .u32 a0).wf = true) (w : World) (r1 : IsRecs stepKs w a1 len1 cap1) (up : len1 ≤ 1048576) :
    Calls Try.prog 11 #[.int .u32 a0, .slice a1 len1 cap1] w fun e w' => e = .returned (.bool true) ∧ Below w.heap.size w w' := by
  obtain ⟨⟨hl, hm⟩, hin⟩ := steps_in r1
  obtain ⟨F, rfl, hF⟩ : ∃ z : Nat, a0 = (z : Int) ∧ z < 4294967296 := by have := bounds_u32 w0; exact ⟨a0.toNat, by omega, by omega⟩
  clear w0 r1
  go_enter Try.func11, Try.ntmps11
  go_wp2_with fail
  refine (code_bnew w).mono ?_
  rintro e x1 ⟨a, rfl, ⟨b, ha, hb, hB⟩, hg⟩
  go_wp2_with fail
  refine (code_bnew x1).mono ?_
  rintro e x2 ⟨a2, rfl, ⟨b2, ha2, hb2, hB2⟩, hg2⟩
  go_wp2_with fail
  have hHB : Below w.heap.size w x2 := (grow_below hg w.heap.size (by omega) (by simp)).trans (grow_below hg2 _ hg.size (by simp))
  have hBk : BkB x2 a b 0 0 (fun _ => none) := hB.kept hg2 (by simp) (by simp)
  have la : a < x1.heap.size := by obtain ⟨D, h, _⟩ := hB; exact lt_of_obj h
  have lb : b < x1.heap.size := by obtain ⟨D, _, h, _⟩ := hB; exact h.lt
  have d1 : a2 ≠ a := by omega
  have d2 : a2 ≠ b := by omega
  have d3 : b2 ≠ a := by omega
  have d4 : b2 ≠ b := by omega
  have wa : w.heap.size ≤ a := ha
  have wb : w.heap.size ≤ b := hb
  have wa2 : w.heap.size ≤ a2 := by have := hg.size; omega
  have wb2 : w.heap.size ≤ b2 := by have := hg.size; omega
  clear hB hg hg2 la lb ha hb ha2 hb2
  go_loopw [7, 20] (fun vn i wr => ∃ k : Nat, ∃ nowa now : Int, ∃ na nb : Nat, ∃ ma mb : Nat → Option Int, k ≤ len1 ∧ i = .int .i64 k ∧ vn = .int .i64 now ∧ 0 ≤ nowa ∧ nowa ≤ now ∧ now ≤ 2 * k ∧ na ≤ k ∧ nb ≤ k ∧ BkB wr a b nowa na ma ∧ BkB wr a2 b2 now nb mb ∧ InF F ma ∧ InF F mb ∧ GG mb F = min (GG ma F + (now - nowa)) 5 ∧ Below w.heap.size w wr) (fun _ i _ => len1 - (intOf i).toNat)
  case atStart => exact ⟨0, 0, 0, 0, 0, _, _, by omega, rfl, rfl, by omega, by omega, by omega, by omega, by omega, hBk, hB2, (fun x _ h => by cases h), (fun x _ h => by cases h), by simp [GG], hHB⟩
  case round =>
    clear hBk hB2 hHB
    obtain ⟨k, nowa, now, na, nb, ma, mb, hk, rfl, rfl, a0, a1, n1, hna, hnb, hA, hB, fA, fB, hG, HB⟩ := hrel
    by_cases hlk : k < len1
    · obtain ⟨v, hv⟩ := hin k hlk
      have hv2 := hv.later HB
      have hvok := hv2.1
      obtain ⟨x, rfl, hxl, c0, c1, c2, c3, c4, c5, c6, c7⟩ := hv2.cells8
      clear hv2 hv
      have bA := bounds_i64 hvok.2.1
      go_wp2_with fail
      refine (rest_any v.a 3 _ bA.1 bA.2 (by omega) (by omega)).mono ?_
      rintro e x3 ⟨rfl, rfl⟩
      have k0 : 0 ≤ v.a % 3 := by omega
      have k1 : v.a % 3 ≤ 2 := by omega
      generalize v.a % 3 = d at *
      go_wp2_with fail
      have ga : wr.grownBy (wr.alloc (.cells v.cells 53)) none := World.grownBy_alloc _ _ _
      refine (step_of _ v hvok 2 (by omega) (by omega)).mono ?_
      rintro e x4 ⟨rfl, hg4⟩
      have hobj := grow_obj hg4 (obj_new wr (.cells v.cells 53)) (by simp)
      have cN : x4.cell? ⟨wr.heap.size, 3, none⟩ = some (.int .u32 v.n) := obj_cell hobj 3
      replace hA := (hA.kept ga (by simp) (by simp)).kept hg4 (by simp) (by simp)
      replace hB := (hB.kept ga (by simp) (by simp)).kept hg4 (by simp) (by simp)
      have HB4 := below_step (below_step HB ga (by simp)) hg4 (by simp)
      clear c0 c1 c2 c3 c4 c5 c6 c7 hobj ga hg4 HB
      have bK := bounds_i64 hvok.1
      have bdA : Bd ma := by obtain ⟨_, _, _, _, h⟩ := hA; exact h
      have q0 : 0 ≤ v.kind % 2 := by omega
      have q1 : v.kind % 2 ≤ 1 := by omega
      by_cases qz : v.kind % 2 = 0
      · rw [qz]
        go_wp2_with fail
        have hF0 : off32 F F < 16 := by unfold off32; omega
        refine (take_in x4 a b nowa (now + d) na ma F F hF hF hF0 hA fA (by omega) (by omega) (by omega) (by omega) (min (GG ma F + (now + d - nowa)) 5) (min (GG ma F + (now + d - nowa)) 5) rfl rfl).mono ?_
        rintro e x5 ⟨mA, rfl, hA5, fA5, gA5, ht5⟩
        rw [if_pos rfl] at gA5
        obtain ⟨C, hC⟩ : ∃ C : Int, C = (if min (GG ma F + (now + d - nowa)) 5 = 0 then 15 else 0) := ⟨_, rfl⟩
        rw [← hC]
        have HC := Lib.hid hC
        clear hC
        have hB5 := hB.kept2 ht5 d1 d2 d3 d4
        have HB5 := HB4.trans (ht5.below HB4.size wa wb)
        clear hA hB ht5 HB4
        go_wp2_with fail
        refine (take_in x5 a2 b2 now (now + d) nb mb F F hF hF hF0 hB5 fB (by omega) (by omega) (by omega) (by omega) (min (GG ma F + (now + d - nowa)) 5) (min (GG ma F + (now + d - nowa)) 5) (by omega) (by omega)).mono ?_
        rintro e x6 ⟨mB, rfl, hB6, fB6, gB6, ht6⟩
        have hA6 := hA5.kept2 ht6 (Ne.symm d1) (Ne.symm d3) (Ne.symm d2) (Ne.symm d4)
        have HB6 := HB5.trans (ht6.below HB5.size wa2 wb2)
        clear hA5 hB5 ht6 HB5
        rw [if_pos rfl] at gB6
        rw [← HC.out]
        go_wp2_with fail
        obtain ⟨DA, iA⟩ := hA6
        refine (code_take_err x6 w.heap.size a (now + d) (-1) _ mA F ⟨b, wa, wb, DA, iA⟩ (by omega)).mono ?_
        rintro e x7 ⟨rfl, rfl⟩
        go_wp2_with fail
        go_roundw
        case rel => exact ⟨k + 1, now + d, now + d, _, _, mA, mB, by omega, by go_num, rfl, by omega, by omega, by omega, by omega, by omega, ⟨DA, iA⟩, hB6, fA5, fB6, by rw [gA5, gB6]; have := gg_bd bdA F; omega, HB6⟩
        case measure => simp [intOf]; omega
      · have qz1 : v.kind % 2 = 1 := by omega
        rw [qz1]
        go_wp2_with fail
        have bN := bounds_u32 hvok.2.2.2.1
        obtain ⟨j, hj, hj1, hj15⟩ : ∃ j : Nat, ((F : Int) + 1 + v.n.tmod 15) % 4294967296 = ((ky32 F j : Nat) : Int) ∧ 1 ≤ j ∧ j < 16 := by
          refine ⟨1 + (v.n % 15).toNat, ?_, by omega, by omega⟩
          rw [Int.tmod_eq_emod_of_nonneg bN.1]
          unfold ky32
          omega
        rw [hj]
        have kF : ky32 F j ≠ F := by unfold ky32; omega
        have kO : off32 F (ky32 F j) < 16 := by unfold off32 ky32; omega
        have gB := gg_bd (m := mb) (by obtain ⟨_, _, _, _, h⟩ := hB; exact h) (ky32 F j)
        refine (take_in x4 a2 b2 now (now + d) nb mb F (ky32 F j) hF (ky32_lt _ _) kO hB fB (by omega) (by omega) (by omega) (by omega) (min (GG ma F + (now + d - nowa)) 5) (min (GG mb (ky32 F j) + (now + d - now)) 5) (by have := gg_bd bdA F; omega) rfl).mono ?_
        rintro e x5 ⟨mB, rfl, hB5, fB5, gB5, ht5⟩
        rw [if_neg kF] at gB5
        have hA5 := hA.kept2 ht5 (Ne.symm d1) (Ne.symm d3) (Ne.symm d2) (Ne.symm d4)
        have HB5 := HB4.trans (ht5.below HB4.size wa2 wb2)
        clear hA hB ht5 HB4
        generalize (if min (GG mb (ky32 F j) + (now + d - now)) 5 = 0 then (15 : Int) else 0) = C
        go_wp2_with fail
        obtain ⟨DA, iA⟩ := hA5
        refine (code_take_err x5 w.heap.size a nowa (-1) _ ma F ⟨b, wa, wb, DA, iA⟩ (by omega)).mono ?_
        rintro e x7 ⟨rfl, rfl⟩
        go_wp2_with fail
        go_roundw
        case rel => exact ⟨k + 1, nowa, now + d, _, _, ma, mB, by omega, by go_num, rfl, by omega, by omega, by omega, by omega, by omega, ⟨DA, iA⟩, hB5, fA, fB5, gB5, HB5⟩
        case measure => simp [intOf]; omega
    · go_wp2_with fail
      go_ret
      exact ⟨rfl, HB⟩

end Go.Proofs.Ytcimcagplodpeaa
