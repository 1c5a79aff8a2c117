/- Noise: states: what is mixed into the hash. -/
import Derived.Test.YtcmncdaojmkfgaaGreatDoorQ02
import Derived.Test.YtcmncdaojmkfgaaGreatDoorR32
namespace Go.Proofs.YtcmncdaojmkfgaaGreatDoor
open Go.RowKit
set_option linter.unusedVariables false

/-- A state's cells. -/
def nstC (suite : Nat) (hash chain key : List UInt8) (n : Nat) : List Value := [suV suite, S hash, S chain, S key, .int .u64 (n : Int)]
def NSt (w : World) (b suite : Nat) (hash chain key : List UInt8) (n : Nat) : Prop := Blk w b 78 (nstC suite hash chain key n)
theorem NSt.kept {w w' : World} {b suite : Nat} {hash chain key : List UInt8} {n : Nat} {r : Option Nat} (h : NSt w b suite hash chain key n) (g : w.grownBy w' r) (hr : some b ≠ r) : NSt w' b suite hash chain key n := Blk.kept h g hr
theorem NSt.cells {w : World} {b suite : Nat} {hash chain key : List UInt8} {n : Nat} (h : NSt w b suite hash chain key n) :
    w.cell? ⟨b, 0, none⟩ = some (suV suite) ∧ w.cell? ⟨b, 1, none⟩ = some (S hash) ∧ w.cell? ⟨b, 2, none⟩ = some (S chain) ∧ w.cell? ⟨b, 3, none⟩ = some (S key) ∧ w.cell? ⟨b, 4, none⟩ = some (.int .u64 (n : Int)) :=
  ⟨Blk.cell h 0, Blk.cell h 1, Blk.cell h 2, Blk.cell h 3, Blk.cell h 4⟩

theorem code_kind1 (w : World) : Calls Tryz.prog 138 #[.agg #[]] w (Grown (.int .i64 1) w) := by
  go_enter Tryz.func138, Tryz.ntmps138
  go_wp2_with fail
  go_ret
  exact ⟨rfl, World.grownBy_alloc _ _ _⟩
theorem code_kind2 (w : World) : Calls Tryz.prog 161 #[.agg #[]] w (Grown (.int .i64 2) w) := by
  go_enter Tryz.func161, Tryz.ntmps161
  go_wp2_with fail
  go_ret
  exact ⟨rfl, World.grownBy_alloc _ _ _⟩

def Mixed (w : World) (b suite : Nat) (hash chain key : List UInt8) (n : Nat) (e : Ending) (w' : World) : Prop := e = .returned (.tuple #[]) ∧ NSt w' b suite hash chain key n ∧ w.grownBy w' (some b)


theorem suV_1 : suV 1 = .iface 125 (.agg #[]) := rfl
theorem suV_2 : suV 2 = .iface 126 (.agg #[]) := rfl

set_option maxRecDepth 100000 in
set_option maxHeartbeats 2000000 in
theorem code_mixhash1 (w : World) (b : Nat) (hash chain key text : List UInt8) (n : Nat) (h : NSt w b 1 hash chain key n) (hh : hash.length ≤ 32) (ht : text.length ≤ 9223372036854774000) :
    Calls Tryz.prog 43 #[.pointer (some ⟨b, 0, none⟩), S text] w (Mixed w b 1 (hashM 1 (hash ++ text)) chain key n) := by
  have A2 : ∀ W : World, Calls Tryz.prog 62 #[.int .i64 1, S (hash ++ text)] W (Grown (.tuple #[S (hashM 1 (hash ++ text)), .int .i64 0]) W) := fun W => code_ksum W 1 (by decide) (hash ++ text) (by rw [List.length_append]; omega)
  have K1 := code_kind1
  obtain ⟨c0, c1, c2, c3, c4⟩ := h.cells
  have f1 := Blk.frozen h 1
  have H := Lib.hid h
  unfold Mixed
  generalize hashM 1 (hash ++ text) = V at *
  have k1 : hash.length + text.length ≤ 9223372036854775807 := by omega
  have k2 : ¬ (9223372036854775807 < hash.length + text.length) := by omega
  have r1 := rule_app
  rw [suV_1] at c0
  clear c2 c3 c4 h hh ht
  unfold S at *
  go_enter Tryz.func43, Tryz.ntmps43
  go_wp2_with fail
  go_region_with (first
    | (go_at_call 138; (with_reducible refine (K1 _).mono ?_); rintro e x1 ⟨rfl, hg1⟩; have H1 : NSt x1 b 1 hash chain key n := Blk.kept (Blk.drew H.out) hg1 nofun; obtain ⟨d0, d1, d2, d3, d4⟩ := H1.cells; unfold S at d1 d2 d3; rw [suV_1] at d0)
    | (go_at_call 62; (with_reducible refine (A2 _).mono ?_); rintro e x2 ⟨rfl, hg2⟩; have H2 : NSt x2 b 1 hash chain key n := Blk.kept H1 hg2 nofun; obtain ⟨e0, e1, e2, e3, e4⟩ := H2.cells; unfold S at e1 e2 e3; have g1 := Blk.frozen H2 1; rw [suV_1] at e0))
  all_goals
    have hfin : w.grownBy (x2.setCell ⟨b, 1, none⟩ (.string ⟨V.toArray⟩)) (some b) := grow_setCell (grow_none (grow_trans (grow_trans (grow_drew (grow_refl _ none)) hg1) hg2)) 1 _
    go_wp2_with fail
    go_end0
    exact ⟨rfl, Blk.set H2 1 (.string ⟨V.toArray⟩), hfin⟩

set_option maxRecDepth 100000 in
set_option maxHeartbeats 2000000 in
theorem code_mixhash2 (w : World) (b : Nat) (hash chain key text : List UInt8) (n : Nat) (h : NSt w b 2 hash chain key n) (hh : hash.length ≤ 32) (ht : text.length ≤ 9223372036854774000) :
    Calls Tryz.prog 43 #[.pointer (some ⟨b, 0, none⟩), S text] w (Mixed w b 2 (hashM 2 (hash ++ text)) chain key n) := by
  have A2 : ∀ W : World, Calls Tryz.prog 62 #[.int .i64 2, S (hash ++ text)] W (Grown (.tuple #[S (hashM 2 (hash ++ text)), .int .i64 0]) W) := fun W => code_ksum W 2 (by decide) (hash ++ text) (by rw [List.length_append]; omega)
  have K1 := code_kind2
  obtain ⟨c0, c1, c2, c3, c4⟩ := h.cells
  have f1 := Blk.frozen h 1
  have H := Lib.hid h
  unfold Mixed
  generalize hashM 2 (hash ++ text) = V at *
  have k1 : hash.length + text.length ≤ 9223372036854775807 := by omega
  have k2 : ¬ (9223372036854775807 < hash.length + text.length) := by omega
  have r1 := rule_app
  rw [suV_2] at c0
  clear c2 c3 c4 h hh ht
  unfold S at *
  go_enter Tryz.func43, Tryz.ntmps43
  go_wp2_with fail
  go_region_with (first
    | (go_at_call 161; (with_reducible refine (K1 _).mono ?_); rintro e x1 ⟨rfl, hg1⟩; have H1 : NSt x1 b 2 hash chain key n := Blk.kept (Blk.drew H.out) hg1 nofun; obtain ⟨d0, d1, d2, d3, d4⟩ := H1.cells; unfold S at d1 d2 d3; rw [suV_2] at d0)
    | (go_at_call 62; (with_reducible refine (A2 _).mono ?_); rintro e x2 ⟨rfl, hg2⟩; have H2 : NSt x2 b 2 hash chain key n := Blk.kept H1 hg2 nofun; obtain ⟨e0, e1, e2, e3, e4⟩ := H2.cells; unfold S at e1 e2 e3; have g1 := Blk.frozen H2 1; rw [suV_2] at e0))
  all_goals
    have hfin : w.grownBy (x2.setCell ⟨b, 1, none⟩ (.string ⟨V.toArray⟩)) (some b) := grow_setCell (grow_none (grow_trans (grow_trans (grow_drew (grow_refl _ none)) hg1) hg2)) 1 _
    go_wp2_with fail
    go_end0
    exact ⟨rfl, Blk.set H2 1 (.string ⟨V.toArray⟩), hfin⟩

theorem code_mixhash (w : World) (b suite : Nat) (h12 : suite = 1 ∨ suite = 2) (hash chain key text : List UInt8) (n : Nat) (h : NSt w b suite hash chain key n) (hh : hash.length ≤ 32) (ht : text.length ≤ 9223372036854774000) :
    Calls Tryz.prog 43 #[.pointer (some ⟨b, 0, none⟩), S text] w (Mixed w b suite (hashM suite (hash ++ text)) chain key n) := by
  rcases h12 with rfl | rfl
  · exact code_mixhash1 w b hash chain key text n h hh ht
  · exact code_mixhash2 w b hash chain key text n h hh ht

/-- Keys that are derived. -/
def mk1 (suite : Nat) (chain text : List UInt8) : List UInt8 := lastM suite (macM suite chain text) 1
def mk2 (suite : Nat) (chain text : List UInt8) : List UInt8 := lastM suite (macM suite chain text) 2
def mk3 (suite : Nat) (chain text : List UInt8) : List UInt8 := lastM suite (macM suite chain text) 3
theorem out2 (suite : Nat) (chain text : List UInt8) : outM suite (macM suite chain text) 2 = [mk1 suite chain text, mk2 suite chain text] := rfl
theorem out3 (suite : Nat) (chain text : List UInt8) : outM suite (macM suite chain text) 3 = [mk1 suite chain text, mk2 suite chain text, mk3 suite chain text] := rfl
theorem mk1_length (suite : Nat) (chain text : List UInt8) : (mk1 suite chain text).length = 32 := macM_length _ _ _
theorem mk2_length (suite : Nat) (chain text : List UInt8) : (mk2 suite chain text).length = 32 := macM_length _ _ _
theorem mk3_length (suite : Nat) (chain text : List UInt8) : (mk3 suite chain text).length = 32 := macM_length _ _ _

set_option maxRecDepth 100000 in
set_option maxHeartbeats 2000000 in
theorem code_mixkey1 (w : World) (b : Nat) (hash chain key text : List UInt8) (n : Nat) (h : NSt w b 1 hash chain key n) (hh : chain.length ≤ 32) (ht : text.length ≤ 9223372036854774000) :
    Calls Tryz.prog 44 #[.pointer (some ⟨b, 0, none⟩), S text] w (Mixed w b 1 hash (mk1 1 chain text) (mk2 1 chain text) 0) := by
  have A2 : ∀ W : World, Calls Tryz.prog 61 #[.int .i64 1, S chain, S text, .int .i64 2] W (DerIs (outM 1 (macM 1 chain text) 2) W) := fun W => code_derive W 1 (by decide) chain text 2 (by omega) (by omega) (by omega) (by omega)
  rw [out2] at A2
  have K1 := code_kind1
  obtain ⟨c0, c1, c2, c3, c4⟩ := h.cells
  have H := Lib.hid h
  unfold Mixed
  generalize mk1 1 chain text = V1 at *
  generalize mk2 1 chain text = V2 at *
  rw [suV_1] at c0
  clear c1 c3 c4 h hh ht
  unfold S at *
  go_enter Tryz.func44, Tryz.ntmps44
  go_wp2_with fail
  go_region_held3 (fun W => W.cell? ⟨b, 0, none⟩ = some (.iface 125 (.agg #[])) ∧ W.cell? ⟨b, 2, none⟩ = some (.string ⟨chain.toArray⟩)) (first | exact ⟨c0, c2⟩ | exact ⟨d0, d2⟩ | exact ⟨m0, m2⟩) (first
    | (go_at_call 138; (with_reducible refine (K1 _).mono ?_); rintro e x1 ⟨rfl, hg1⟩; have H1 : NSt x1 b 1 hash chain key n := Blk.kept (Blk.drew H.out) hg1 nofun; obtain ⟨d0, d1, d2, d3, d4⟩ := H1.cells; unfold S at d1 d2 d3; rw [suV_1] at d0)
    | (go_at_call 61; (with_reducible refine (A2 _).mono ?_); rintro e x2 ⟨v, rfl, hr, hg2⟩; have H2 : NSt x2 b 1 hash chain key n := Blk.kept H1 hg2 nofun; obtain ⟨m0, m1, m2, m3, m4⟩ := H2.cells; unfold S at m1 m2 m3; rw [suV_1] at m0))
  all_goals
    obtain ⟨g, cap, hv, hb1, hb2, hb3, hb4, hcl⟩ := srow_cells hr (by simp)
    have hne := srow_other hr H2 (by decide)
    subst hv
    have hgb : g ≠ b := fun e => hne (by rw [e]; rfl)
    have l0 := hcl 0 (by simp)
    have l1 := hcl 1 (by simp)
    obtain ⟨e0, e1, e2, e3, e4⟩ := H2.cells
    have f2 := Blk.frozen H2 2
    have f3 := Blk.frozen H2 3
    have f4 := Blk.frozen H2 4
    have hgg := grow_trans (grow_trans (grow_drew (grow_refl w none)) hg1) hg2
    have HGG := Lib.hid hgg
    have HH2 := Lib.hid H2
    clear hr hcl hne hg1 hg2 hgg H2 e0 e1 K1 A2
    unfold S at *
    go_wp2_with fail
    go_region
  all_goals
    have hs3 := Blk.drew (Blk.set (Blk.set (Blk.set HH2.out 2 (.string ⟨V1.toArray⟩)) 3 (.string ⟨V2.toArray⟩)) 4 (.int .u64 0))
    have HS3 := Lib.hid hs3
    have HG3 := Lib.hid (grow_drew (grow_setCell (grow_setCell (grow_setCell (grow_none (r := some b) HGG.out) 2 (.string ⟨V1.toArray⟩)) 3 (.string ⟨V2.toArray⟩)) 4 (.int .u64 0)))
    clear hs3
    go_wp2_with fail
    go_end0
    exact ⟨rfl, HS3.out, HG3.out⟩

set_option maxRecDepth 100000 in
set_option maxHeartbeats 2000000 in
theorem code_mixkey2 (w : World) (b : Nat) (hash chain key text : List UInt8) (n : Nat) (h : NSt w b 2 hash chain key n) (hh : chain.length ≤ 32) (ht : text.length ≤ 9223372036854774000) :
    Calls Tryz.prog 44 #[.pointer (some ⟨b, 0, none⟩), S text] w (Mixed w b 2 hash (mk1 2 chain text) (mk2 2 chain text) 0) := by
  have A2 : ∀ W : World, Calls Tryz.prog 61 #[.int .i64 2, S chain, S text, .int .i64 2] W (DerIs (outM 2 (macM 2 chain text) 2) W) := fun W => code_derive W 2 (by decide) chain text 2 (by omega) (by omega) (by omega) (by omega)
  rw [out2] at A2
  have K1 := code_kind2
  obtain ⟨c0, c1, c2, c3, c4⟩ := h.cells
  have H := Lib.hid h
  unfold Mixed
  generalize mk1 2 chain text = V1 at *
  generalize mk2 2 chain text = V2 at *
  rw [suV_2] at c0
  clear c1 c3 c4 h hh ht
  unfold S at *
  go_enter Tryz.func44, Tryz.ntmps44
  go_wp2_with fail
  go_region_held3 (fun W => W.cell? ⟨b, 0, none⟩ = some (.iface 126 (.agg #[])) ∧ W.cell? ⟨b, 2, none⟩ = some (.string ⟨chain.toArray⟩)) (first | exact ⟨c0, c2⟩ | exact ⟨d0, d2⟩ | exact ⟨m0, m2⟩) (first
    | (go_at_call 161; (with_reducible refine (K1 _).mono ?_); rintro e x1 ⟨rfl, hg1⟩; have H1 : NSt x1 b 2 hash chain key n := Blk.kept (Blk.drew H.out) hg1 nofun; obtain ⟨d0, d1, d2, d3, d4⟩ := H1.cells; unfold S at d1 d2 d3; rw [suV_2] at d0)
    | (go_at_call 61; (with_reducible refine (A2 _).mono ?_); rintro e x2 ⟨v, rfl, hr, hg2⟩; have H2 : NSt x2 b 2 hash chain key n := Blk.kept H1 hg2 nofun; obtain ⟨m0, m1, m2, m3, m4⟩ := H2.cells; unfold S at m1 m2 m3; rw [suV_2] at m0))
  all_goals
    obtain ⟨g, cap, hv, hb1, hb2, hb3, hb4, hcl⟩ := srow_cells hr (by simp)
    have hne := srow_other hr H2 (by decide)
    subst hv
    have hgb : g ≠ b := fun e => hne (by rw [e]; rfl)
    have l0 := hcl 0 (by simp)
    have l1 := hcl 1 (by simp)
    obtain ⟨e0, e1, e2, e3, e4⟩ := H2.cells
    have f2 := Blk.frozen H2 2
    have f3 := Blk.frozen H2 3
    have f4 := Blk.frozen H2 4
    have hgg := grow_trans (grow_trans (grow_drew (grow_refl w none)) hg1) hg2
    have HGG := Lib.hid hgg
    have HH2 := Lib.hid H2
    clear hr hcl hne hg1 hg2 hgg H2 e0 e1 K1 A2
    unfold S at *
    go_wp2_with fail
    go_region
  all_goals
    have hs3 := Blk.drew (Blk.set (Blk.set (Blk.set HH2.out 2 (.string ⟨V1.toArray⟩)) 3 (.string ⟨V2.toArray⟩)) 4 (.int .u64 0))
    have HS3 := Lib.hid hs3
    have HG3 := Lib.hid (grow_drew (grow_setCell (grow_setCell (grow_setCell (grow_none (r := some b) HGG.out) 2 (.string ⟨V1.toArray⟩)) 3 (.string ⟨V2.toArray⟩)) 4 (.int .u64 0)))
    clear hs3
    go_wp2_with fail
    go_end0
    exact ⟨rfl, HS3.out, HG3.out⟩

end Go.Proofs.YtcmncdaojmkfgaaGreatDoor
