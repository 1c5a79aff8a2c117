/- Noise: MixBoth and Split. (Written by wip/gen/nboth.py.) -/
import Derived.Test.YtcmncdaojmkfgaaGreatDoorNoiseState
namespace Go.Proofs.YtcmncdaojmkfgaaGreatDoor
open Go.RowKit
set_option linter.unusedVariables false

set_option maxRecDepth 100000 in
set_option maxHeartbeats 4000000 in
theorem code_mixboth1 (w : World) (b : Nat) (hash chain key text : List UInt8) (n : Nat) (h : NSt w b 1 hash chain key n) (hc : chain.length ≤ 32) (hh : hash.length ≤ 32) (ht : text.length ≤ 9223372036854774000) :
    Calls Tryz.prog 40 #[.pointer (some ⟨b, 0, none⟩), S text] w (Mixed w b 1 (hashM 1 (hash ++ mk2 1 chain text)) (mk1 1 chain text) (mk3 1 chain text) 0) := by
  have A2 : ∀ W : World, Calls Tryz.prog 61 #[.int .i64 1, S chain, S text, .int .i64 3] W (DerIs (outM 1 (macM 1 chain text) 3) W) := fun W => code_derive W 1 (by decide) chain text 3 (by omega) (by omega) (by omega) (by omega)
  rw [out3] at A2
  have K1 := code_kind1
  obtain ⟨c0, c1, c2, c3, c4⟩ := h.cells
  have H := Lib.hid h
  have A3 := fun (W : World) (hW : NSt W b 1 hash chain key n) => code_mixhash1 W b hash chain key (mk2 1 chain text) n hW hh (by rw [mk2_length]; omega)
  unfold Mixed at *
  generalize hashM 1 (hash ++ mk2 1 chain text) = V0 at *
  generalize mk1 1 chain text = V1 at *
  generalize mk2 1 chain text = V2 at *
  generalize mk3 1 chain text = V3 at *
  rw [suV_1] at c0
  clear c1 c3 c4 h hh ht hc
  unfold S at *
  go_enter Tryz.func40, Tryz.ntmps40
  go_wp2_with fail
  go_region_held3 (fun W => W.cell? ⟨b, 0, none⟩ = some (.iface 125 (.agg #[])) ∧ W.cell? ⟨b, 2, none⟩ = some (.string ⟨chain.toArray⟩)) (first | exact ⟨c0, c2⟩ | exact ⟨d0, d2⟩ | exact ⟨m0, m2⟩) (first
    | (go_at_call 138; (with_reducible refine (K1 _).mono ?_); rintro e x1 ⟨rfl, hg1⟩; have H1 : NSt x1 b 1 hash chain key n := Blk.kept (Blk.drew H.out) hg1 nofun; obtain ⟨d0, d1, d2, d3, d4⟩ := H1.cells; unfold S at d1 d2 d3; rw [suV_1] at d0)
    | (go_at_call 61; (with_reducible refine (A2 _).mono ?_); rintro e x2 ⟨v, rfl, hr, hg2⟩; have H2 : NSt x2 b 1 hash chain key n := Blk.kept H1 hg2 nofun; obtain ⟨m0, m1, m2, m3, m4⟩ := H2.cells; unfold S at m1 m2 m3; rw [suV_1] at m0))
  all_goals
    obtain ⟨g, cap, hv, hb1, hb2, hb3, hb4, hcl⟩ := srow_cells hr (by simp)
    have hne := srow_other hr H2 (by decide)
    subst hv
    have hgb : g ≠ b := fun e => hne (by rw [e]; rfl)
    have l0 := hcl 0 (by simp)
    have l1 := hcl 1 (by simp)
    have l2 := hcl 2 (by simp)
    have HGG := Lib.hid (grow_trans (grow_trans (grow_drew (grow_refl w none)) hg1) hg2)
    have A4 := A3 x2 H2
    clear hr hcl hne hg1 hg2 H2 m0 m1 m2 m3 m4 K1 A2 A3
    unfold S at *
    go_wp2_with fail
    (with_reducible refine A4.mono ?_)
    rintro e x3 ⟨rfl, hs3, hg3⟩
    have L0 := hg3.cell (a := ⟨g, 0, none⟩) l0 (by simp; omega)
    have L2 := hg3.cell (a := ⟨g, 2, none⟩) l2 (by simp; omega)
    obtain ⟨e0, e1, e2, e3, e4⟩ := hs3.cells
    have f2 := Blk.frozen hs3 2
    have f3 := Blk.frozen hs3 3
    have f4 := Blk.frozen hs3 4
    have HH2 := Lib.hid hs3
    have HG3 := Lib.hid (grow_trans (grow_none (r := some b) HGG.out) hg3)
    clear hs3 hg3 A4 e0 e1 l0 l1 l2
    unfold S at *
    go_wp2_with fail
    go_region
  all_goals
    have hs5 := Blk.drew (Blk.set (Blk.set (Blk.set HH2.out 2 (.string ⟨V1.toArray⟩)) 3 (.string ⟨V3.toArray⟩)) 4 (.int .u64 0))
    have HS5 := Lib.hid hs5
    have HG5 := Lib.hid (grow_drew (grow_setCell (grow_setCell (grow_setCell HG3.out 2 (.string ⟨V1.toArray⟩)) 3 (.string ⟨V3.toArray⟩)) 4 (.int .u64 0)))
    clear hs5
    go_wp2_with fail
    go_end0
    exact ⟨rfl, HS5.out, HG5.out⟩

set_option maxRecDepth 100000 in
set_option maxHeartbeats 4000000 in
theorem code_nsplit1 (w : World) (b : Nat) (hash chain key : List UInt8) (n : Nat) (h : NSt w b 1 hash chain key n) (hc : chain.length ≤ 32) :
    Calls Tryz.prog 41 #[.pointer (some ⟨b, 0, none⟩)] w (Grown (.tuple #[S (mk1 1 chain []), S (mk2 1 chain [])]) w) := by
  have A2 : ∀ W : World, Calls Tryz.prog 61 #[.int .i64 1, S chain, S [], .int .i64 2] W (DerIs (outM 1 (macM 1 chain []) 2) W) := fun W => code_derive W 1 (by decide) chain [] 2 (by omega) (by omega) (by omega) (by simp)
  rw [out2] at A2
  have K1 := code_kind1
  obtain ⟨c0, c1, c2, c3, c4⟩ := h.cells
  have H := Lib.hid h
  generalize mk1 1 chain [] = V1 at *
  generalize mk2 1 chain [] = V2 at *
  rw [suV_1] at c0
  clear c1 c3 c4 h hc
  unfold S at *
  go_enter Tryz.func41, Tryz.ntmps41
  go_wp2_with fail
  go_region_held3 (fun W => W.cell? ⟨b, 0, none⟩ = some (.iface 125 (.agg #[])) ∧ W.cell? ⟨b, 2, none⟩ = some (.string ⟨chain.toArray⟩)) (first | exact ⟨c0, c2⟩ | exact ⟨d0, d2⟩ | exact ⟨m0, m2⟩) (first
    | (go_at_call 138; (with_reducible refine (K1 _).mono ?_); rintro e x1 ⟨rfl, hg1⟩; have H1 : NSt x1 b 1 hash chain key n := Blk.kept (Blk.drew H.out) hg1 nofun; obtain ⟨d0, d1, d2, d3, d4⟩ := H1.cells; unfold S at d1 d2 d3; rw [suV_1] at d0)
    | (go_at_call 61; (with_reducible refine (A2 _).mono ?_); rintro e x2 ⟨v, rfl, hr, hg2⟩; have H2 : NSt x2 b 1 hash chain key n := Blk.kept H1 hg2 nofun; obtain ⟨m0, m1, m2, m3, m4⟩ := H2.cells; unfold S at m1 m2 m3; rw [suV_1] at m0))
  all_goals
    obtain ⟨g, cap, hv, hb1, hb2, hb3, hb4, hcl⟩ := srow_cells hr (by simp)
    subst hv
    have l0 := hcl 0 (by simp)
    have l1 := hcl 1 (by simp)
    have HGG := Lib.hid (grow_trans (grow_trans (grow_drew (grow_refl w none)) hg1) hg2)
    clear hr hcl hg1 hg2 H2 m0 m1 m2 m3 m4 K1 A2
    unfold S at *
    go_wp2_with fail
    go_region
  all_goals
    go_wp2_with fail
    go_ret2
    exact ⟨rfl, grow_drew HGG.out⟩

set_option maxRecDepth 100000 in
set_option maxHeartbeats 4000000 in
theorem code_mixboth2 (w : World) (b : Nat) (hash chain key text : List UInt8) (n : Nat) (h : NSt w b 2 hash chain key n) (hc : chain.length ≤ 32) (hh : hash.length ≤ 32) (ht : text.length ≤ 9223372036854774000) :
    Calls Tryz.prog 40 #[.pointer (some ⟨b, 0, none⟩), S text] w (Mixed w b 2 (hashM 2 (hash ++ mk2 2 chain text)) (mk1 2 chain text) (mk3 2 chain text) 0) := by
  have A2 : ∀ W : World, Calls Tryz.prog 61 #[.int .i64 2, S chain, S text, .int .i64 3] W (DerIs (outM 2 (macM 2 chain text) 3) W) := fun W => code_derive W 2 (by decide) chain text 3 (by omega) (by omega) (by omega) (by omega)
  rw [out3] at A2
  have K1 := code_kind2
  obtain ⟨c0, c1, c2, c3, c4⟩ := h.cells
  have H := Lib.hid h
  have A3 := fun (W : World) (hW : NSt W b 2 hash chain key n) => code_mixhash2 W b hash chain key (mk2 2 chain text) n hW hh (by rw [mk2_length]; omega)
  unfold Mixed at *
  generalize hashM 2 (hash ++ mk2 2 chain text) = V0 at *
  generalize mk1 2 chain text = V1 at *
  generalize mk2 2 chain text = V2 at *
  generalize mk3 2 chain text = V3 at *
  rw [suV_2] at c0
  clear c1 c3 c4 h hh ht hc
  unfold S at *
  go_enter Tryz.func40, Tryz.ntmps40
  go_wp2_with fail
  go_region_held3 (fun W => W.cell? ⟨b, 0, none⟩ = some (.iface 126 (.agg #[])) ∧ W.cell? ⟨b, 2, none⟩ = some (.string ⟨chain.toArray⟩)) (first | exact ⟨c0, c2⟩ | exact ⟨d0, d2⟩ | exact ⟨m0, m2⟩) (first
    | (go_at_call 161; (with_reducible refine (K1 _).mono ?_); rintro e x1 ⟨rfl, hg1⟩; have H1 : NSt x1 b 2 hash chain key n := Blk.kept (Blk.drew H.out) hg1 nofun; obtain ⟨d0, d1, d2, d3, d4⟩ := H1.cells; unfold S at d1 d2 d3; rw [suV_2] at d0)
    | (go_at_call 61; (with_reducible refine (A2 _).mono ?_); rintro e x2 ⟨v, rfl, hr, hg2⟩; have H2 : NSt x2 b 2 hash chain key n := Blk.kept H1 hg2 nofun; obtain ⟨m0, m1, m2, m3, m4⟩ := H2.cells; unfold S at m1 m2 m3; rw [suV_2] at m0))
  all_goals
    obtain ⟨g, cap, hv, hb1, hb2, hb3, hb4, hcl⟩ := srow_cells hr (by simp)
    have hne := srow_other hr H2 (by decide)
    subst hv
    have hgb : g ≠ b := fun e => hne (by rw [e]; rfl)
    have l0 := hcl 0 (by simp)
    have l1 := hcl 1 (by simp)
    have l2 := hcl 2 (by simp)
    have HGG := Lib.hid (grow_trans (grow_trans (grow_drew (grow_refl w none)) hg1) hg2)
    have A4 := A3 x2 H2
    clear hr hcl hne hg1 hg2 H2 m0 m1 m2 m3 m4 K1 A2 A3
    unfold S at *
    go_wp2_with fail
    (with_reducible refine A4.mono ?_)
    rintro e x3 ⟨rfl, hs3, hg3⟩
    have L0 := hg3.cell (a := ⟨g, 0, none⟩) l0 (by simp; omega)
    have L2 := hg3.cell (a := ⟨g, 2, none⟩) l2 (by simp; omega)
    obtain ⟨e0, e1, e2, e3, e4⟩ := hs3.cells
    have f2 := Blk.frozen hs3 2
    have f3 := Blk.frozen hs3 3
    have f4 := Blk.frozen hs3 4
    have HH2 := Lib.hid hs3
    have HG3 := Lib.hid (grow_trans (grow_none (r := some b) HGG.out) hg3)
    clear hs3 hg3 A4 e0 e1 l0 l1 l2
    unfold S at *
    go_wp2_with fail
    go_region
  all_goals
    have hs5 := Blk.drew (Blk.set (Blk.set (Blk.set HH2.out 2 (.string ⟨V1.toArray⟩)) 3 (.string ⟨V3.toArray⟩)) 4 (.int .u64 0))
    have HS5 := Lib.hid hs5
    have HG5 := Lib.hid (grow_drew (grow_setCell (grow_setCell (grow_setCell HG3.out 2 (.string ⟨V1.toArray⟩)) 3 (.string ⟨V3.toArray⟩)) 4 (.int .u64 0)))
    clear hs5
    go_wp2_with fail
    go_end0
    exact ⟨rfl, HS5.out, HG5.out⟩

set_option maxRecDepth 100000 in
set_option maxHeartbeats 4000000 in
theorem code_nsplit2 (w : World) (b : Nat) (hash chain key : List UInt8) (n : Nat) (h : NSt w b 2 hash chain key n) (hc : chain.length ≤ 32) :
    Calls Tryz.prog 41 #[.pointer (some ⟨b, 0, none⟩)] w (Grown (.tuple #[S (mk1 2 chain []), S (mk2 2 chain [])]) w) := by
  have A2 : ∀ W : World, Calls Tryz.prog 61 #[.int .i64 2, S chain, S [], .int .i64 2] W (DerIs (outM 2 (macM 2 chain []) 2) W) := fun W => code_derive W 2 (by decide) chain [] 2 (by omega) (by omega) (by omega) (by simp)
  rw [out2] at A2
  have K1 := code_kind2
  obtain ⟨c0, c1, c2, c3, c4⟩ := h.cells
  have H := Lib.hid h
  generalize mk1 2 chain [] = V1 at *
  generalize mk2 2 chain [] = V2 at *
  rw [suV_2] at c0
  clear c1 c3 c4 h hc
  unfold S at *
  go_enter Tryz.func41, Tryz.ntmps41
  go_wp2_with fail
  go_region_held3 (fun W => W.cell? ⟨b, 0, none⟩ = some (.iface 126 (.agg #[])) ∧ W.cell? ⟨b, 2, none⟩ = some (.string ⟨chain.toArray⟩)) (first | exact ⟨c0, c2⟩ | exact ⟨d0, d2⟩ | exact ⟨m0, m2⟩) (first
    | (go_at_call 161; (with_reducible refine (K1 _).mono ?_); rintro e x1 ⟨rfl, hg1⟩; have H1 : NSt x1 b 2 hash chain key n := Blk.kept (Blk.drew H.out) hg1 nofun; obtain ⟨d0, d1, d2, d3, d4⟩ := H1.cells; unfold S at d1 d2 d3; rw [suV_2] at d0)
    | (go_at_call 61; (with_reducible refine (A2 _).mono ?_); rintro e x2 ⟨v, rfl, hr, hg2⟩; have H2 : NSt x2 b 2 hash chain key n := Blk.kept H1 hg2 nofun; obtain ⟨m0, m1, m2, m3, m4⟩ := H2.cells; unfold S at m1 m2 m3; rw [suV_2] at m0))
  all_goals
    obtain ⟨g, cap, hv, hb1, hb2, hb3, hb4, hcl⟩ := srow_cells hr (by simp)
    subst hv
    have l0 := hcl 0 (by simp)
    have l1 := hcl 1 (by simp)
    have HGG := Lib.hid (grow_trans (grow_trans (grow_drew (grow_refl w none)) hg1) hg2)
    clear hr hcl hg1 hg2 H2 m0 m1 m2 m3 m4 K1 A2
    unfold S at *
    go_wp2_with fail
    go_region
  all_goals
    go_wp2_with fail
    go_ret2
    exact ⟨rfl, grow_drew HGG.out⟩

end Go.Proofs.YtcmncdaojmkfgaaGreatDoor
