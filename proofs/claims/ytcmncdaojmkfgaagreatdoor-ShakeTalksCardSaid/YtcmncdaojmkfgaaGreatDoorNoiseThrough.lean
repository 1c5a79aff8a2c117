/- Noise: through a suite's Seal or Open. (Written by wip/gen/nthrough.py.) -/
import Derived.Test.YtcmncdaojmkfgaaGreatDoorNoiseNew
import Derived.Test.YtcmncdaojmkfgaaGreatDoorR09
namespace Go.Proofs.YtcmncdaojmkfgaaGreatDoor
open Go.RowKit
set_option linter.unusedVariables false

theorem empty_no {l : List UInt8} (h : l.length = 32) : (l == []) = false := by
  rw [beq_eq_false_iff_ne]
  intro e
  rw [e] at h
  simp at h

set_option maxRecDepth 100000 in
set_option maxHeartbeats 4000000 in
theorem thrSeal1_ok (w : World) (b : Nat) (hash chain key text a : List UInt8) (n : Nat) (h : NSt w b 1 hash chain key n) (hk : key.length = 32) (hn : n < 18446744073709551000)
    (C : ∀ W : World, Calls Tryz.prog 141 #[.agg #[], S key, S (nonL 1 n), S hash, S text] W (Grown (.tuple #[S a, .int .i64 0]) W)) :
    Calls Tryz.prog 64 #[.pointer (some ⟨b, 0, none⟩), S text, .func (.method "souterrain/noise.seal") #[.iface 125 (.agg #[])] #[]] w (fun e w' => e = .returned (.tuple #[S a, .int .i64 0]) ∧ NSt w' b 1 hash chain key (n + 1) ∧ w.grownBy w' (some b)) := by
  obtain ⟨c0, c1, c2, c3, c4⟩ := h.cells
  rw [suV_1] at c0
  have f4 := Blk.frozen h 4
  have A1 := fun W : World => code_bnonce W n (by omega)
  have ne := empty_no hk
  have ne2 : key.isEmpty = false := by rw [List.isEmpty_eq_false_iff]; intro e; rw [e] at hk; simp at hk
  have ne3 : key ≠ [] := by intro e; rw [e] at hk; simp at hk
  have w1 : IntKind.u64.wrap ((n : Int) + 1) = (n : Int) + 1 := IntWalk.u64_in _ (by omega)
  have H := Lib.hid h
  generalize nonL 1 n = O at *
  clear c2 h hk
  unfold S at *
  go_enter Tryz.func64, Tryz.ntmps64
  go_wp2_with fail
  go_region_held3 (fun W => W.cell? ⟨b, 0, none⟩ = some (.iface 125 (.agg #[])) ∧ W.cell? ⟨b, 1, none⟩ = some (.string ⟨hash.toArray⟩) ∧ W.cell? ⟨b, 3, none⟩ = some (.string ⟨key.toArray⟩) ∧ W.cell? ⟨b, 4, none⟩ = some (.int .u64 (n : Int))) (first | exact ⟨c0, c1, c3, c4⟩ | exact ⟨d0, d1, d3, d4⟩ | exact ⟨e0, e1, e3, e4⟩) (first
    | (go_at_call 139; (with_reducible refine (A1 _).mono ?_); rintro e x1 ⟨rfl, hg1⟩; have H1 : NSt x1 b 1 hash chain key n := Blk.kept (Blk.drew H.out) hg1 nofun; obtain ⟨d0, d1, d2, d3, d4⟩ := H1.cells; unfold S at d1 d2 d3; rw [suV_1] at d0; clear d2)
    | (go_at_call 141; (with_reducible refine (C _).mono ?_); rintro e x2 ⟨rfl, hg2⟩; have H2 : NSt x2 b 1 hash chain key n := Blk.kept H1 hg2 nofun; obtain ⟨e0, e1, e2, e3, e4⟩ := H2.cells; unfold S at e1 e2 e3; rw [suV_1] at e0; have g4 := Blk.frozen H2 4))
  all_goals
    have HG := Lib.hid (grow_trans (grow_trans (grow_drew (grow_refl w none)) hg1) hg2)
    have HH := Lib.hid H2
    clear hg1 hg2 H1 H2 d0 d1 d3 d4 e0 e1 e2 e3
    go_wp2_with fail
    go_ret2
    exact ⟨rfl, Blk.set HH.out 4 (.int .u64 ((n : Int) + 1)), grow_setCell (grow_none HG.out) 4 _⟩

set_option maxRecDepth 100000 in
set_option maxHeartbeats 4000000 in
theorem thrSeal1_err (w : World) (b : Nat) (hash chain key text a : List UInt8) (n : Nat) (c : Int) (hc : (c == 0) = false) (h : NSt w b 1 hash chain key n) (hk : key.length = 32) (hn : n < 18446744073709551000)
    (C : ∀ W : World, Calls Tryz.prog 141 #[.agg #[], S key, S (nonL 1 n), S hash, S text] W (Grown (.tuple #[S a, .int .i64 c]) W)) :
    Calls Tryz.prog 64 #[.pointer (some ⟨b, 0, none⟩), S text, .func (.method "souterrain/noise.seal") #[.iface 125 (.agg #[])] #[]] w (fun e w' => e = .returned (.tuple #[S a, .int .i64 c]) ∧ w.grownBy w' none) := by
  obtain ⟨c0, c1, c2, c3, c4⟩ := h.cells
  rw [suV_1] at c0
  have f4 := Blk.frozen h 4
  have A1 := fun W : World => code_bnonce W n (by omega)
  have ne := empty_no hk
  have ne2 : key.isEmpty = false := by rw [List.isEmpty_eq_false_iff]; intro e; rw [e] at hk; simp at hk
  have ne3 : key ≠ [] := by intro e; rw [e] at hk; simp at hk
  have w1 : IntKind.u64.wrap ((n : Int) + 1) = (n : Int) + 1 := IntWalk.u64_in _ (by omega)
  have H := Lib.hid h
  generalize nonL 1 n = O at *
  clear c2 h hk
  unfold S at *
  go_enter Tryz.func64, Tryz.ntmps64
  go_wp2_with fail
  go_region_held3 (fun W => W.cell? ⟨b, 0, none⟩ = some (.iface 125 (.agg #[])) ∧ W.cell? ⟨b, 1, none⟩ = some (.string ⟨hash.toArray⟩) ∧ W.cell? ⟨b, 3, none⟩ = some (.string ⟨key.toArray⟩) ∧ W.cell? ⟨b, 4, none⟩ = some (.int .u64 (n : Int))) (first | exact ⟨c0, c1, c3, c4⟩ | exact ⟨d0, d1, d3, d4⟩ | exact ⟨e0, e1, e3, e4⟩) (first
    | (go_at_call 139; (with_reducible refine (A1 _).mono ?_); rintro e x1 ⟨rfl, hg1⟩; have H1 : NSt x1 b 1 hash chain key n := Blk.kept (Blk.drew H.out) hg1 nofun; obtain ⟨d0, d1, d2, d3, d4⟩ := H1.cells; unfold S at d1 d2 d3; rw [suV_1] at d0; clear d2)
    | (go_at_call 141; (with_reducible refine (C _).mono ?_); rintro e x2 ⟨rfl, hg2⟩; have H2 : NSt x2 b 1 hash chain key n := Blk.kept H1 hg2 nofun; obtain ⟨e0, e1, e2, e3, e4⟩ := H2.cells; unfold S at e1 e2 e3; rw [suV_1] at e0; have g4 := Blk.frozen H2 4))
  all_goals
    have HG := Lib.hid (grow_trans (grow_trans (grow_drew (grow_refl w none)) hg1) hg2)
    have HH := Lib.hid H2
    clear hg1 hg2 H1 H2 d0 d1 d3 d4 e0 e1 e2 e3
    go_wp2_with fail
    go_ret2
    exact ⟨rfl, HG.out⟩

set_option maxRecDepth 100000 in
set_option maxHeartbeats 4000000 in
theorem thrSeal2_ok (w : World) (b : Nat) (hash chain key text a : List UInt8) (n : Nat) (h : NSt w b 2 hash chain key n) (hk : key.length = 32) (hn : n < 18446744073709551000)
    (C : ∀ W : World, Calls Tryz.prog 164 #[.agg #[], S key, S (nonL 2 n), S hash, S text] W (Grown (.tuple #[S a, .int .i64 0]) W)) :
    Calls Tryz.prog 64 #[.pointer (some ⟨b, 0, none⟩), S text, .func (.method "souterrain/noise.seal") #[.iface 126 (.agg #[])] #[]] w (fun e w' => e = .returned (.tuple #[S a, .int .i64 0]) ∧ NSt w' b 2 hash chain key (n + 1) ∧ w.grownBy w' (some b)) := by
  obtain ⟨c0, c1, c2, c3, c4⟩ := h.cells
  rw [suV_2] at c0
  have f4 := Blk.frozen h 4
  have A1 := fun W : World => code_snonce W n (by omega)
  have ne := empty_no hk
  have ne2 : key.isEmpty = false := by rw [List.isEmpty_eq_false_iff]; intro e; rw [e] at hk; simp at hk
  have ne3 : key ≠ [] := by intro e; rw [e] at hk; simp at hk
  have w1 : IntKind.u64.wrap ((n : Int) + 1) = (n : Int) + 1 := IntWalk.u64_in _ (by omega)
  have H := Lib.hid h
  generalize nonL 2 n = O at *
  clear c2 h hk
  unfold S at *
  go_enter Tryz.func64, Tryz.ntmps64
  go_wp2_with fail
  go_region_held3 (fun W => W.cell? ⟨b, 0, none⟩ = some (.iface 126 (.agg #[])) ∧ W.cell? ⟨b, 1, none⟩ = some (.string ⟨hash.toArray⟩) ∧ W.cell? ⟨b, 3, none⟩ = some (.string ⟨key.toArray⟩) ∧ W.cell? ⟨b, 4, none⟩ = some (.int .u64 (n : Int))) (first | exact ⟨c0, c1, c3, c4⟩ | exact ⟨d0, d1, d3, d4⟩ | exact ⟨e0, e1, e3, e4⟩) (first
    | (go_at_call 162; (with_reducible refine (A1 _).mono ?_); rintro e x1 ⟨rfl, hg1⟩; have H1 : NSt x1 b 2 hash chain key n := Blk.kept (Blk.drew H.out) hg1 nofun; obtain ⟨d0, d1, d2, d3, d4⟩ := H1.cells; unfold S at d1 d2 d3; rw [suV_2] at d0; clear d2)
    | (go_at_call 164; (with_reducible refine (C _).mono ?_); rintro e x2 ⟨rfl, hg2⟩; have H2 : NSt x2 b 2 hash chain key n := Blk.kept H1 hg2 nofun; obtain ⟨e0, e1, e2, e3, e4⟩ := H2.cells; unfold S at e1 e2 e3; rw [suV_2] at e0; have g4 := Blk.frozen H2 4))
  all_goals
    have HG := Lib.hid (grow_trans (grow_trans (grow_drew (grow_refl w none)) hg1) hg2)
    have HH := Lib.hid H2
    clear hg1 hg2 H1 H2 d0 d1 d3 d4 e0 e1 e2 e3
    go_wp2_with fail
    go_ret2
    exact ⟨rfl, Blk.set HH.out 4 (.int .u64 ((n : Int) + 1)), grow_setCell (grow_none HG.out) 4 _⟩

set_option maxRecDepth 100000 in
set_option maxHeartbeats 4000000 in
theorem thrSeal2_err (w : World) (b : Nat) (hash chain key text a : List UInt8) (n : Nat) (c : Int) (hc : (c == 0) = false) (h : NSt w b 2 hash chain key n) (hk : key.length = 32) (hn : n < 18446744073709551000)
    (C : ∀ W : World, Calls Tryz.prog 164 #[.agg #[], S key, S (nonL 2 n), S hash, S text] W (Grown (.tuple #[S a, .int .i64 c]) W)) :
    Calls Tryz.prog 64 #[.pointer (some ⟨b, 0, none⟩), S text, .func (.method "souterrain/noise.seal") #[.iface 126 (.agg #[])] #[]] w (fun e w' => e = .returned (.tuple #[S a, .int .i64 c]) ∧ w.grownBy w' none) := by
  obtain ⟨c0, c1, c2, c3, c4⟩ := h.cells
  rw [suV_2] at c0
  have f4 := Blk.frozen h 4
  have A1 := fun W : World => code_snonce W n (by omega)
  have ne := empty_no hk
  have ne2 : key.isEmpty = false := by rw [List.isEmpty_eq_false_iff]; intro e; rw [e] at hk; simp at hk
  have ne3 : key ≠ [] := by intro e; rw [e] at hk; simp at hk
  have w1 : IntKind.u64.wrap ((n : Int) + 1) = (n : Int) + 1 := IntWalk.u64_in _ (by omega)
  have H := Lib.hid h
  generalize nonL 2 n = O at *
  clear c2 h hk
  unfold S at *
  go_enter Tryz.func64, Tryz.ntmps64
  go_wp2_with fail
  go_region_held3 (fun W => W.cell? ⟨b, 0, none⟩ = some (.iface 126 (.agg #[])) ∧ W.cell? ⟨b, 1, none⟩ = some (.string ⟨hash.toArray⟩) ∧ W.cell? ⟨b, 3, none⟩ = some (.string ⟨key.toArray⟩) ∧ W.cell? ⟨b, 4, none⟩ = some (.int .u64 (n : Int))) (first | exact ⟨c0, c1, c3, c4⟩ | exact ⟨d0, d1, d3, d4⟩ | exact ⟨e0, e1, e3, e4⟩) (first
    | (go_at_call 162; (with_reducible refine (A1 _).mono ?_); rintro e x1 ⟨rfl, hg1⟩; have H1 : NSt x1 b 2 hash chain key n := Blk.kept (Blk.drew H.out) hg1 nofun; obtain ⟨d0, d1, d2, d3, d4⟩ := H1.cells; unfold S at d1 d2 d3; rw [suV_2] at d0; clear d2)
    | (go_at_call 164; (with_reducible refine (C _).mono ?_); rintro e x2 ⟨rfl, hg2⟩; have H2 : NSt x2 b 2 hash chain key n := Blk.kept H1 hg2 nofun; obtain ⟨e0, e1, e2, e3, e4⟩ := H2.cells; unfold S at e1 e2 e3; rw [suV_2] at e0; have g4 := Blk.frozen H2 4))
  all_goals
    have HG := Lib.hid (grow_trans (grow_trans (grow_drew (grow_refl w none)) hg1) hg2)
    have HH := Lib.hid H2
    clear hg1 hg2 H1 H2 d0 d1 d3 d4 e0 e1 e2 e3
    go_wp2_with fail
    go_ret2
    exact ⟨rfl, HG.out⟩

set_option maxRecDepth 100000 in
set_option maxHeartbeats 4000000 in
theorem thrOpen1_ok (w : World) (b : Nat) (hash chain key text a : List UInt8) (n : Nat) (h : NSt w b 1 hash chain key n) (hk : key.length = 32) (hn : n < 18446744073709551000)
    (C : ∀ W : World, Calls Tryz.prog 140 #[.agg #[], S key, S (nonL 1 n), S hash, S text] W (Grown (.tuple #[S a, .int .i64 0]) W)) :
    Calls Tryz.prog 64 #[.pointer (some ⟨b, 0, none⟩), S text, .func (.method "souterrain/noise.open") #[.iface 125 (.agg #[])] #[]] w (fun e w' => e = .returned (.tuple #[S a, .int .i64 0]) ∧ NSt w' b 1 hash chain key (n + 1) ∧ w.grownBy w' (some b)) := by
  obtain ⟨c0, c1, c2, c3, c4⟩ := h.cells
  rw [suV_1] at c0
  have f4 := Blk.frozen h 4
  have A1 := fun W : World => code_bnonce W n (by omega)
  have ne := empty_no hk
  have ne2 : key.isEmpty = false := by rw [List.isEmpty_eq_false_iff]; intro e; rw [e] at hk; simp at hk
  have ne3 : key ≠ [] := by intro e; rw [e] at hk; simp at hk
  have w1 : IntKind.u64.wrap ((n : Int) + 1) = (n : Int) + 1 := IntWalk.u64_in _ (by omega)
  have H := Lib.hid h
  generalize nonL 1 n = O at *
  clear c2 h hk
  unfold S at *
  go_enter Tryz.func64, Tryz.ntmps64
  go_wp2_with fail
  go_region_held3 (fun W => W.cell? ⟨b, 0, none⟩ = some (.iface 125 (.agg #[])) ∧ W.cell? ⟨b, 1, none⟩ = some (.string ⟨hash.toArray⟩) ∧ W.cell? ⟨b, 3, none⟩ = some (.string ⟨key.toArray⟩) ∧ W.cell? ⟨b, 4, none⟩ = some (.int .u64 (n : Int))) (first | exact ⟨c0, c1, c3, c4⟩ | exact ⟨d0, d1, d3, d4⟩ | exact ⟨e0, e1, e3, e4⟩) (first
    | (go_at_call 139; (with_reducible refine (A1 _).mono ?_); rintro e x1 ⟨rfl, hg1⟩; have H1 : NSt x1 b 1 hash chain key n := Blk.kept (Blk.drew H.out) hg1 nofun; obtain ⟨d0, d1, d2, d3, d4⟩ := H1.cells; unfold S at d1 d2 d3; rw [suV_1] at d0; clear d2)
    | (go_at_call 140; (with_reducible refine (C _).mono ?_); rintro e x2 ⟨rfl, hg2⟩; have H2 : NSt x2 b 1 hash chain key n := Blk.kept H1 hg2 nofun; obtain ⟨e0, e1, e2, e3, e4⟩ := H2.cells; unfold S at e1 e2 e3; rw [suV_1] at e0; have g4 := Blk.frozen H2 4))
  all_goals
    have HG := Lib.hid (grow_trans (grow_trans (grow_drew (grow_refl w none)) hg1) hg2)
    have HH := Lib.hid H2
    clear hg1 hg2 H1 H2 d0 d1 d3 d4 e0 e1 e2 e3
    go_wp2_with fail
    go_ret2
    exact ⟨rfl, Blk.set HH.out 4 (.int .u64 ((n : Int) + 1)), grow_setCell (grow_none HG.out) 4 _⟩

set_option maxRecDepth 100000 in
set_option maxHeartbeats 4000000 in
theorem thrOpen1_err (w : World) (b : Nat) (hash chain key text a : List UInt8) (n : Nat) (c : Int) (hc : (c == 0) = false) (h : NSt w b 1 hash chain key n) (hk : key.length = 32) (hn : n < 18446744073709551000)
    (C : ∀ W : World, Calls Tryz.prog 140 #[.agg #[], S key, S (nonL 1 n), S hash, S text] W (Grown (.tuple #[S a, .int .i64 c]) W)) :
    Calls Tryz.prog 64 #[.pointer (some ⟨b, 0, none⟩), S text, .func (.method "souterrain/noise.open") #[.iface 125 (.agg #[])] #[]] w (fun e w' => e = .returned (.tuple #[S a, .int .i64 c]) ∧ w.grownBy w' none) := by
  obtain ⟨c0, c1, c2, c3, c4⟩ := h.cells
  rw [suV_1] at c0
  have f4 := Blk.frozen h 4
  have A1 := fun W : World => code_bnonce W n (by omega)
  have ne := empty_no hk
  have ne2 : key.isEmpty = false := by rw [List.isEmpty_eq_false_iff]; intro e; rw [e] at hk; simp at hk
  have ne3 : key ≠ [] := by intro e; rw [e] at hk; simp at hk
  have w1 : IntKind.u64.wrap ((n : Int) + 1) = (n : Int) + 1 := IntWalk.u64_in _ (by omega)
  have H := Lib.hid h
  generalize nonL 1 n = O at *
  clear c2 h hk
  unfold S at *
  go_enter Tryz.func64, Tryz.ntmps64
  go_wp2_with fail
  go_region_held3 (fun W => W.cell? ⟨b, 0, none⟩ = some (.iface 125 (.agg #[])) ∧ W.cell? ⟨b, 1, none⟩ = some (.string ⟨hash.toArray⟩) ∧ W.cell? ⟨b, 3, none⟩ = some (.string ⟨key.toArray⟩) ∧ W.cell? ⟨b, 4, none⟩ = some (.int .u64 (n : Int))) (first | exact ⟨c0, c1, c3, c4⟩ | exact ⟨d0, d1, d3, d4⟩ | exact ⟨e0, e1, e3, e4⟩) (first
    | (go_at_call 139; (with_reducible refine (A1 _).mono ?_); rintro e x1 ⟨rfl, hg1⟩; have H1 : NSt x1 b 1 hash chain key n := Blk.kept (Blk.drew H.out) hg1 nofun; obtain ⟨d0, d1, d2, d3, d4⟩ := H1.cells; unfold S at d1 d2 d3; rw [suV_1] at d0; clear d2)
    | (go_at_call 140; (with_reducible refine (C _).mono ?_); rintro e x2 ⟨rfl, hg2⟩; have H2 : NSt x2 b 1 hash chain key n := Blk.kept H1 hg2 nofun; obtain ⟨e0, e1, e2, e3, e4⟩ := H2.cells; unfold S at e1 e2 e3; rw [suV_1] at e0; have g4 := Blk.frozen H2 4))
  all_goals
    have HG := Lib.hid (grow_trans (grow_trans (grow_drew (grow_refl w none)) hg1) hg2)
    have HH := Lib.hid H2
    clear hg1 hg2 H1 H2 d0 d1 d3 d4 e0 e1 e2 e3
    go_wp2_with fail
    go_ret2
    exact ⟨rfl, HG.out⟩

set_option maxRecDepth 100000 in
set_option maxHeartbeats 4000000 in
theorem thrOpen2_ok (w : World) (b : Nat) (hash chain key text a : List UInt8) (n : Nat) (h : NSt w b 2 hash chain key n) (hk : key.length = 32) (hn : n < 18446744073709551000)
    (C : ∀ W : World, Calls Tryz.prog 163 #[.agg #[], S key, S (nonL 2 n), S hash, S text] W (Grown (.tuple #[S a, .int .i64 0]) W)) :
    Calls Tryz.prog 64 #[.pointer (some ⟨b, 0, none⟩), S text, .func (.method "souterrain/noise.open") #[.iface 126 (.agg #[])] #[]] w (fun e w' => e = .returned (.tuple #[S a, .int .i64 0]) ∧ NSt w' b 2 hash chain key (n + 1) ∧ w.grownBy w' (some b)) := by
  obtain ⟨c0, c1, c2, c3, c4⟩ := h.cells
  rw [suV_2] at c0
  have f4 := Blk.frozen h 4
  have A1 := fun W : World => code_snonce W n (by omega)
  have ne := empty_no hk
  have ne2 : key.isEmpty = false := by rw [List.isEmpty_eq_false_iff]; intro e; rw [e] at hk; simp at hk
  have ne3 : key ≠ [] := by intro e; rw [e] at hk; simp at hk
  have w1 : IntKind.u64.wrap ((n : Int) + 1) = (n : Int) + 1 := IntWalk.u64_in _ (by omega)
  have H := Lib.hid h
  generalize nonL 2 n = O at *
  clear c2 h hk
  unfold S at *
  go_enter Tryz.func64, Tryz.ntmps64
  go_wp2_with fail
  go_region_held3 (fun W => W.cell? ⟨b, 0, none⟩ = some (.iface 126 (.agg #[])) ∧ W.cell? ⟨b, 1, none⟩ = some (.string ⟨hash.toArray⟩) ∧ W.cell? ⟨b, 3, none⟩ = some (.string ⟨key.toArray⟩) ∧ W.cell? ⟨b, 4, none⟩ = some (.int .u64 (n : Int))) (first | exact ⟨c0, c1, c3, c4⟩ | exact ⟨d0, d1, d3, d4⟩ | exact ⟨e0, e1, e3, e4⟩) (first
    | (go_at_call 162; (with_reducible refine (A1 _).mono ?_); rintro e x1 ⟨rfl, hg1⟩; have H1 : NSt x1 b 2 hash chain key n := Blk.kept (Blk.drew H.out) hg1 nofun; obtain ⟨d0, d1, d2, d3, d4⟩ := H1.cells; unfold S at d1 d2 d3; rw [suV_2] at d0; clear d2)
    | (go_at_call 163; (with_reducible refine (C _).mono ?_); rintro e x2 ⟨rfl, hg2⟩; have H2 : NSt x2 b 2 hash chain key n := Blk.kept H1 hg2 nofun; obtain ⟨e0, e1, e2, e3, e4⟩ := H2.cells; unfold S at e1 e2 e3; rw [suV_2] at e0; have g4 := Blk.frozen H2 4))
  all_goals
    have HG := Lib.hid (grow_trans (grow_trans (grow_drew (grow_refl w none)) hg1) hg2)
    have HH := Lib.hid H2
    clear hg1 hg2 H1 H2 d0 d1 d3 d4 e0 e1 e2 e3
    go_wp2_with fail
    go_ret2
    exact ⟨rfl, Blk.set HH.out 4 (.int .u64 ((n : Int) + 1)), grow_setCell (grow_none HG.out) 4 _⟩

set_option maxRecDepth 100000 in
set_option maxHeartbeats 4000000 in
theorem thrOpen2_err (w : World) (b : Nat) (hash chain key text a : List UInt8) (n : Nat) (c : Int) (hc : (c == 0) = false) (h : NSt w b 2 hash chain key n) (hk : key.length = 32) (hn : n < 18446744073709551000)
    (C : ∀ W : World, Calls Tryz.prog 163 #[.agg #[], S key, S (nonL 2 n), S hash, S text] W (Grown (.tuple #[S a, .int .i64 c]) W)) :
    Calls Tryz.prog 64 #[.pointer (some ⟨b, 0, none⟩), S text, .func (.method "souterrain/noise.open") #[.iface 126 (.agg #[])] #[]] w (fun e w' => e = .returned (.tuple #[S a, .int .i64 c]) ∧ w.grownBy w' none) := by
  obtain ⟨c0, c1, c2, c3, c4⟩ := h.cells
  rw [suV_2] at c0
  have f4 := Blk.frozen h 4
  have A1 := fun W : World => code_snonce W n (by omega)
  have ne := empty_no hk
  have ne2 : key.isEmpty = false := by rw [List.isEmpty_eq_false_iff]; intro e; rw [e] at hk; simp at hk
  have ne3 : key ≠ [] := by intro e; rw [e] at hk; simp at hk
  have w1 : IntKind.u64.wrap ((n : Int) + 1) = (n : Int) + 1 := IntWalk.u64_in _ (by omega)
  have H := Lib.hid h
  generalize nonL 2 n = O at *
  clear c2 h hk
  unfold S at *
  go_enter Tryz.func64, Tryz.ntmps64
  go_wp2_with fail
  go_region_held3 (fun W => W.cell? ⟨b, 0, none⟩ = some (.iface 126 (.agg #[])) ∧ W.cell? ⟨b, 1, none⟩ = some (.string ⟨hash.toArray⟩) ∧ W.cell? ⟨b, 3, none⟩ = some (.string ⟨key.toArray⟩) ∧ W.cell? ⟨b, 4, none⟩ = some (.int .u64 (n : Int))) (first | exact ⟨c0, c1, c3, c4⟩ | exact ⟨d0, d1, d3, d4⟩ | exact ⟨e0, e1, e3, e4⟩) (first
    | (go_at_call 162; (with_reducible refine (A1 _).mono ?_); rintro e x1 ⟨rfl, hg1⟩; have H1 : NSt x1 b 2 hash chain key n := Blk.kept (Blk.drew H.out) hg1 nofun; obtain ⟨d0, d1, d2, d3, d4⟩ := H1.cells; unfold S at d1 d2 d3; rw [suV_2] at d0; clear d2)
    | (go_at_call 163; (with_reducible refine (C _).mono ?_); rintro e x2 ⟨rfl, hg2⟩; have H2 : NSt x2 b 2 hash chain key n := Blk.kept H1 hg2 nofun; obtain ⟨e0, e1, e2, e3, e4⟩ := H2.cells; unfold S at e1 e2 e3; rw [suV_2] at e0; have g4 := Blk.frozen H2 4))
  all_goals
    have HG := Lib.hid (grow_trans (grow_trans (grow_drew (grow_refl w none)) hg1) hg2)
    have HH := Lib.hid H2
    clear hg1 hg2 H1 H2 d0 d1 d3 d4 e0 e1 e2 e3
    go_wp2_with fail
    go_ret2
    exact ⟨rfl, HG.out⟩

end Go.Proofs.YtcmncdaojmkfgaaGreatDoor
