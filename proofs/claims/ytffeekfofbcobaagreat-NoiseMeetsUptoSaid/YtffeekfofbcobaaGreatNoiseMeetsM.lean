/-
  Several texts of this claim in one: NoiseState, NoiseNew, NoiseSuite, NoiseThrough, AesCols, Stir, NoiseBoth, GhashSum, GhashOut, AesEnc, BigBro, Builder, AesNew, XorPlain, GcmPlain, Gcm, GcmX, GcmSeal, Begun, Text, Block, Stream, StreamPlain, SubKey, SealPlain, Seal, SealOpen, GcmOpen, NoiseSM, Steps, Rest, RestNat, NoisePlain, NoiseMeetsLaw.
-/
import Derived.Test.YtffeekfofbcobaaGreatNoiseOf
import Derived.Test.YtffeekfofbcobaaGreatKdfSum
import Derived.Test.YtffeekfofbcobaaGreatKdfDerive
import Derived.Test.YtffeekfofbcobaaGreatAesBlock
import Derived.StillTailTactics
import Derived.Test.YtffeekfofbcobaaGreatStir1
import Derived.Test.YtffeekfofbcobaaGreatRow
import Derived.Test.YtffeekfofbcobaaGreatGhash
import Derived.Test.YtffeekfofbcobaaGreatByRow
import Derived.Lib.LazyBuf
import Derived.Deep.DrawnRows
import Derived.BigRegion
import Derived.Test.YtffeekfofbcobaaGreatWxor
import Derived.Test.YtffeekfofbcobaaGreatZeros
import Derived.Test.YtffeekfofbcobaaGreatAesExpand
import Derived.Test.YtffeekfofbcobaaGreatBro
import Derived.Test.YtffeekfofbcobaaGreatWire
import Derived.Lib.Builder
import Derived.Lib.AppendStr
import Derived.Test.YtffeekfofbcobaaGreatAesPlain
import Derived.Test.YtffeekfofbcobaaGreatLittle
import Derived.Deep.RegionWith
import Derived.Test.YtffeekfofbcobaaGreatTagPlain
import Derived.Test.YtffeekfofbcobaaGreatTagW
import Derived.Test.YtffeekfofbcobaaGreatOpen
import Derived.Test.YtffeekfofbcobaaGreatBase
namespace Go.Proofs.YtffeekfofbcobaaGreat
open Go.RowKit
set_option linter.unusedVariables false

/-- A state's cells. -/
def nstC (suite : Nat) (hash chain key : List UInt8) (n : Nat) : List Value := [suV suite, S hash, S chain, S key, .int .u64 (n : Int)]
def NSt (w : World) (b suite : Nat) (hash chain key : List UInt8) (n : Nat) : Prop := Blk w b 49 (nstC suite hash chain key n)
theorem NSt.kept {w w' : World} {b suite : Nat} {hash chain key : List UInt8} {n : Nat} {r : Option Nat} (h : NSt w b suite hash chain key n) (g : w.grownBy w' r) (hr : some b ≠ r) : NSt w' b suite hash chain key n := Blk.kept h g hr
theorem NSt.cells {w : World} {b suite : Nat} {hash chain key : List UInt8} {n : Nat} (h : NSt w b suite hash chain key n) :
    w.cell? ⟨b, 0, none⟩ = some (suV suite) ∧ w.cell? ⟨b, 1, none⟩ = some (S hash) ∧ w.cell? ⟨b, 2, none⟩ = some (S chain) ∧ w.cell? ⟨b, 3, none⟩ = some (S key) ∧ w.cell? ⟨b, 4, none⟩ = some (.int .u64 (n : Int)) :=
  ⟨Blk.cell h 0, Blk.cell h 1, Blk.cell h 2, Blk.cell h 3, Blk.cell h 4⟩

theorem code_kind1 (w : World) : Calls Tryz.prog 70 #[.agg #[]] w (Grown (.int .i64 1) w) := by
  go_enter Tryz.func70, Tryz.ntmps70
  go_wp2_with fail
  go_ret
  exact ⟨rfl, World.grownBy_alloc _ _ _⟩
theorem code_kind2 (w : World) : Calls Tryz.prog 94 #[.agg #[]] w (Grown (.int .i64 2) w) := by
  go_enter Tryz.func94, Tryz.ntmps94
  go_wp2_with fail
  go_ret
  exact ⟨rfl, World.grownBy_alloc _ _ _⟩

def Mixed (w : World) (b suite : Nat) (hash chain key : List UInt8) (n : Nat) (e : Ending) (w' : World) : Prop := e = .returned (.tuple #[]) ∧ NSt w' b suite hash chain key n ∧ w.grownBy w' (some b)


theorem suV_1 : suV 1 = .iface 57 (.agg #[]) := rfl
theorem suV_2 : suV 2 = .iface 58 (.agg #[]) := rfl

set_option maxRecDepth 100000 in
set_option maxHeartbeats 2000000 in
theorem code_mixhash1 (w : World) (b : Nat) (hash chain key text : List UInt8) (n : Nat) (h : NSt w b 1 hash chain key n) (hh : hash.length ≤ 32) (ht : text.length ≤ 9223372036854774000) :
    Calls Tryz.prog 12 #[.pointer (some ⟨b, 0, none⟩), S text] w (Mixed w b 1 (hashM 1 (hash ++ text)) chain key n) := by
  have A2 : ∀ W : World, Calls Tryz.prog 16 #[.int .i64 1, S (hash ++ text)] W (Grown (.tuple #[S (hashM 1 (hash ++ text)), .int .i64 0]) W) := fun W => code_ksum W 1 (by decide) (hash ++ text) (by rw [List.length_append]; omega)
  have K1 := code_kind1
  obtain ⟨c0, c1, c2, c3, c4⟩ := h.cells
  have f1 := Blk.frozen h 1
  have H := Lib.hid h
  unfold Mixed
  generalize hashM 1 (hash ++ text) = V at *
  have k1 : hash.length + text.length ≤ 9223372036854775807 := by omega
  have k2 : ¬ (9223372036854775807 < hash.length + text.length) := by omega
  have r1 := rule_app
  rw [suV_1] at c0
  clear c2 c3 c4 h hh ht
  unfold S at *
  go_enter Tryz.func12, Tryz.ntmps12
  go_wp2_with fail
  go_region_with (first
    | (go_at_call 70; (with_reducible refine (K1 _).mono ?_); rintro e x1 ⟨rfl, hg1⟩; have H1 : NSt x1 b 1 hash chain key n := Blk.kept (Blk.drew H.out) hg1 nofun; obtain ⟨d0, d1, d2, d3, d4⟩ := H1.cells; unfold S at d1 d2 d3; rw [suV_1] at d0)
    | (go_at_call 16; (with_reducible refine (A2 _).mono ?_); rintro e x2 ⟨rfl, hg2⟩; have H2 : NSt x2 b 1 hash chain key n := Blk.kept H1 hg2 nofun; obtain ⟨e0, e1, e2, e3, e4⟩ := H2.cells; unfold S at e1 e2 e3; have g1 := Blk.frozen H2 1; rw [suV_1] at e0))
  all_goals
    have hfin : w.grownBy (x2.setCell ⟨b, 1, none⟩ (.string ⟨V.toArray⟩)) (some b) := grow_setCell (grow_none (grow_trans (grow_trans (grow_drew (grow_refl _ none)) hg1) hg2)) 1 _
    go_wp2_with fail
    go_end0
    exact ⟨rfl, Blk.set H2 1 (.string ⟨V.toArray⟩), hfin⟩

set_option maxRecDepth 100000 in
set_option maxHeartbeats 2000000 in
theorem code_mixhash2 (w : World) (b : Nat) (hash chain key text : List UInt8) (n : Nat) (h : NSt w b 2 hash chain key n) (hh : hash.length ≤ 32) (ht : text.length ≤ 9223372036854774000) :
    Calls Tryz.prog 12 #[.pointer (some ⟨b, 0, none⟩), S text] w (Mixed w b 2 (hashM 2 (hash ++ text)) chain key n) := by
  have A2 : ∀ W : World, Calls Tryz.prog 16 #[.int .i64 2, S (hash ++ text)] W (Grown (.tuple #[S (hashM 2 (hash ++ text)), .int .i64 0]) W) := fun W => code_ksum W 2 (by decide) (hash ++ text) (by rw [List.length_append]; omega)
  have K1 := code_kind2
  obtain ⟨c0, c1, c2, c3, c4⟩ := h.cells
  have f1 := Blk.frozen h 1
  have H := Lib.hid h
  unfold Mixed
  generalize hashM 2 (hash ++ text) = V at *
  have k1 : hash.length + text.length ≤ 9223372036854775807 := by omega
  have k2 : ¬ (9223372036854775807 < hash.length + text.length) := by omega
  have r1 := rule_app
  rw [suV_2] at c0
  clear c2 c3 c4 h hh ht
  unfold S at *
  go_enter Tryz.func12, Tryz.ntmps12
  go_wp2_with fail
  go_region_with (first
    | (go_at_call 94; (with_reducible refine (K1 _).mono ?_); rintro e x1 ⟨rfl, hg1⟩; have H1 : NSt x1 b 2 hash chain key n := Blk.kept (Blk.drew H.out) hg1 nofun; obtain ⟨d0, d1, d2, d3, d4⟩ := H1.cells; unfold S at d1 d2 d3; rw [suV_2] at d0)
    | (go_at_call 16; (with_reducible refine (A2 _).mono ?_); rintro e x2 ⟨rfl, hg2⟩; have H2 : NSt x2 b 2 hash chain key n := Blk.kept H1 hg2 nofun; obtain ⟨e0, e1, e2, e3, e4⟩ := H2.cells; unfold S at e1 e2 e3; have g1 := Blk.frozen H2 1; rw [suV_2] at e0))
  all_goals
    have hfin : w.grownBy (x2.setCell ⟨b, 1, none⟩ (.string ⟨V.toArray⟩)) (some b) := grow_setCell (grow_none (grow_trans (grow_trans (grow_drew (grow_refl _ none)) hg1) hg2)) 1 _
    go_wp2_with fail
    go_end0
    exact ⟨rfl, Blk.set H2 1 (.string ⟨V.toArray⟩), hfin⟩

theorem code_mixhash (w : World) (b suite : Nat) (h12 : suite = 1 ∨ suite = 2) (hash chain key text : List UInt8) (n : Nat) (h : NSt w b suite hash chain key n) (hh : hash.length ≤ 32) (ht : text.length ≤ 9223372036854774000) :
    Calls Tryz.prog 12 #[.pointer (some ⟨b, 0, none⟩), S text] w (Mixed w b suite (hashM suite (hash ++ text)) chain key n) := by
  rcases h12 with rfl | rfl
  · exact code_mixhash1 w b hash chain key text n h hh ht
  · exact code_mixhash2 w b hash chain key text n h hh ht

theorem code_nhash (w : World) (b suite : Nat) (hash chain key : List UInt8) (n : Nat) (h : NSt w b suite hash chain key n) :
    Calls Tryz.prog 7 #[.pointer (some ⟨b, 0, none⟩)] w fun e w' => e = .returned (S hash) ∧ w = w' := by
  obtain ⟨c0, c1, c2, c3, c4⟩ := h.cells
  clear c0 c2 c3 c4 h
  unfold S at *
  go_enter Tryz.func7, Tryz.ntmps7
  go_wp2_with fail
  go_ret
  exact ⟨rfl, rfl⟩

/-- Keys that are derived. -/
def mk1 (suite : Nat) (chain text : List UInt8) : List UInt8 := lastM suite (macM suite chain text) 1
def mk2 (suite : Nat) (chain text : List UInt8) : List UInt8 := lastM suite (macM suite chain text) 2
def mk3 (suite : Nat) (chain text : List UInt8) : List UInt8 := lastM suite (macM suite chain text) 3
theorem out2 (suite : Nat) (chain text : List UInt8) : outM suite (macM suite chain text) 2 = [mk1 suite chain text, mk2 suite chain text] := rfl
theorem out3 (suite : Nat) (chain text : List UInt8) : outM suite (macM suite chain text) 3 = [mk1 suite chain text, mk2 suite chain text, mk3 suite chain text] := rfl
theorem mk1_length (suite : Nat) (chain text : List UInt8) : (mk1 suite chain text).length = 32 := macM_length _ _ _
theorem mk2_length (suite : Nat) (chain text : List UInt8) : (mk2 suite chain text).length = 32 := macM_length _ _ _
theorem mk3_length (suite : Nat) (chain text : List UInt8) : (mk3 suite chain text).length = 32 := macM_length _ _ _

set_option maxRecDepth 100000 in
set_option maxHeartbeats 2000000 in
theorem code_mixkey1 (w : World) (b : Nat) (hash chain key text : List UInt8) (n : Nat) (h : NSt w b 1 hash chain key n) (hh : chain.length ≤ 32) (ht : text.length ≤ 9223372036854774000) :
    Calls Tryz.prog 10 #[.pointer (some ⟨b, 0, none⟩), S text] w (Mixed w b 1 hash (mk1 1 chain text) (mk2 1 chain text) 0) := by
  have A2 : ∀ W : World, Calls Tryz.prog 18 #[.int .i64 1, S chain, S text, .int .i64 2] W (DerIs (outM 1 (macM 1 chain text) 2) W) := fun W => code_derive W 1 (by decide) chain text 2 (by omega) (by omega) (by omega) (by omega)
  rw [out2] at A2
  have K1 := code_kind1
  obtain ⟨c0, c1, c2, c3, c4⟩ := h.cells
  have H := Lib.hid h
  unfold Mixed
  generalize mk1 1 chain text = V1 at *
  generalize mk2 1 chain text = V2 at *
  rw [suV_1] at c0
  clear c1 c3 c4 h hh ht
  unfold S at *
  go_enter Tryz.func10, Tryz.ntmps10
  go_wp2_with fail
  go_region_held3 (fun W => W.cell? ⟨b, 0, none⟩ = some (.iface 57 (.agg #[])) ∧ W.cell? ⟨b, 2, none⟩ = some (.string ⟨chain.toArray⟩)) (first | exact ⟨c0, c2⟩ | exact ⟨d0, d2⟩ | exact ⟨m0, m2⟩) (first
    | (go_at_call 70; (with_reducible refine (K1 _).mono ?_); rintro e x1 ⟨rfl, hg1⟩; have H1 : NSt x1 b 1 hash chain key n := Blk.kept (Blk.drew H.out) hg1 nofun; obtain ⟨d0, d1, d2, d3, d4⟩ := H1.cells; unfold S at d1 d2 d3; rw [suV_1] at d0)
    | (go_at_call 18; (with_reducible refine (A2 _).mono ?_); rintro e x2 ⟨v, rfl, hr, hg2⟩; have H2 : NSt x2 b 1 hash chain key n := Blk.kept H1 hg2 nofun; obtain ⟨m0, m1, m2, m3, m4⟩ := H2.cells; unfold S at m1 m2 m3; rw [suV_1] at m0))
  all_goals
    obtain ⟨g, cap, hv, hb1, hb2, hb3, hb4, hcl⟩ := srow_cells hr (by simp)
    have hne := srow_other hr H2 (by decide)
    subst hv
    have hgb : g ≠ b := fun e => hne (by rw [e]; rfl)
    have l0 := hcl 0 (by simp)
    have l1 := hcl 1 (by simp)
    obtain ⟨e0, e1, e2, e3, e4⟩ := H2.cells
    have f2 := Blk.frozen H2 2
    have f3 := Blk.frozen H2 3
    have f4 := Blk.frozen H2 4
    have hgg := grow_trans (grow_trans (grow_drew (grow_refl w none)) hg1) hg2
    have HGG := Lib.hid hgg
    have HH2 := Lib.hid H2
    clear hr hcl hne hg1 hg2 hgg H2 e0 e1 K1 A2
    unfold S at *
    go_wp2_with fail
    go_region
  all_goals
    have hs3 := Blk.drew (Blk.set (Blk.set (Blk.set HH2.out 2 (.string ⟨V1.toArray⟩)) 3 (.string ⟨V2.toArray⟩)) 4 (.int .u64 0))
    have HS3 := Lib.hid hs3
    have HG3 := Lib.hid (grow_drew (grow_setCell (grow_setCell (grow_setCell (grow_none (r := some b) HGG.out) 2 (.string ⟨V1.toArray⟩)) 3 (.string ⟨V2.toArray⟩)) 4 (.int .u64 0)))
    clear hs3
    go_wp2_with fail
    go_end0
    exact ⟨rfl, HS3.out, HG3.out⟩

set_option maxRecDepth 100000 in
set_option maxHeartbeats 2000000 in
theorem code_mixkey2 (w : World) (b : Nat) (hash chain key text : List UInt8) (n : Nat) (h : NSt w b 2 hash chain key n) (hh : chain.length ≤ 32) (ht : text.length ≤ 9223372036854774000) :
    Calls Tryz.prog 10 #[.pointer (some ⟨b, 0, none⟩), S text] w (Mixed w b 2 hash (mk1 2 chain text) (mk2 2 chain text) 0) := by
  have A2 : ∀ W : World, Calls Tryz.prog 18 #[.int .i64 2, S chain, S text, .int .i64 2] W (DerIs (outM 2 (macM 2 chain text) 2) W) := fun W => code_derive W 2 (by decide) chain text 2 (by omega) (by omega) (by omega) (by omega)
  rw [out2] at A2
  have K1 := code_kind2
  obtain ⟨c0, c1, c2, c3, c4⟩ := h.cells
  have H := Lib.hid h
  unfold Mixed
  generalize mk1 2 chain text = V1 at *
  generalize mk2 2 chain text = V2 at *
  rw [suV_2] at c0
  clear c1 c3 c4 h hh ht
  unfold S at *
  go_enter Tryz.func10, Tryz.ntmps10
  go_wp2_with fail
  go_region_held3 (fun W => W.cell? ⟨b, 0, none⟩ = some (.iface 58 (.agg #[])) ∧ W.cell? ⟨b, 2, none⟩ = some (.string ⟨chain.toArray⟩)) (first | exact ⟨c0, c2⟩ | exact ⟨d0, d2⟩ | exact ⟨m0, m2⟩) (first
    | (go_at_call 94; (with_reducible refine (K1 _).mono ?_); rintro e x1 ⟨rfl, hg1⟩; have H1 : NSt x1 b 2 hash chain key n := Blk.kept (Blk.drew H.out) hg1 nofun; obtain ⟨d0, d1, d2, d3, d4⟩ := H1.cells; unfold S at d1 d2 d3; rw [suV_2] at d0)
    | (go_at_call 18; (with_reducible refine (A2 _).mono ?_); rintro e x2 ⟨v, rfl, hr, hg2⟩; have H2 : NSt x2 b 2 hash chain key n := Blk.kept H1 hg2 nofun; obtain ⟨m0, m1, m2, m3, m4⟩ := H2.cells; unfold S at m1 m2 m3; rw [suV_2] at m0))
  all_goals
    obtain ⟨g, cap, hv, hb1, hb2, hb3, hb4, hcl⟩ := srow_cells hr (by simp)
    have hne := srow_other hr H2 (by decide)
    subst hv
    have hgb : g ≠ b := fun e => hne (by rw [e]; rfl)
    have l0 := hcl 0 (by simp)
    have l1 := hcl 1 (by simp)
    obtain ⟨e0, e1, e2, e3, e4⟩ := H2.cells
    have f2 := Blk.frozen H2 2
    have f3 := Blk.frozen H2 3
    have f4 := Blk.frozen H2 4
    have hgg := grow_trans (grow_trans (grow_drew (grow_refl w none)) hg1) hg2
    have HGG := Lib.hid hgg
    have HH2 := Lib.hid H2
    clear hr hcl hne hg1 hg2 hgg H2 e0 e1 K1 A2
    unfold S at *
    go_wp2_with fail
    go_region
  all_goals
    have hs3 := Blk.drew (Blk.set (Blk.set (Blk.set HH2.out 2 (.string ⟨V1.toArray⟩)) 3 (.string ⟨V2.toArray⟩)) 4 (.int .u64 0))
    have HS3 := Lib.hid hs3
    have HG3 := Lib.hid (grow_drew (grow_setCell (grow_setCell (grow_setCell (grow_none (r := some b) HGG.out) 2 (.string ⟨V1.toArray⟩)) 3 (.string ⟨V2.toArray⟩)) 4 (.int .u64 0)))
    clear hs3
    go_wp2_with fail
    go_end0
    exact ⟨rfl, HS3.out, HG3.out⟩

end Go.Proofs.YtffeekfofbcobaaGreat

namespace Go.Proofs.YtffeekfofbcobaaGreat
open Go.RowKit
set_option linter.unusedVariables false

def labL (suite : Nat) : List UInt8 := [115, 111, 117, 116, 101, 114, 114, 97, 105, 110, 32] ++ [UInt8.ofNat (48 + suite)]
def begH (suite : Nat) : List UInt8 := hashM suite (labL suite)
theorem begH_length (suite : Nat) (h12 : suite = 1 ∨ suite = 2) : (begH suite).length = 32 := hashM_length _ _
def Newed (w : World) (suite : Nat) (pro : List UInt8) (e : Ending) (w' : World) : Prop :=
  ∃ b, e = .returned (.tuple #[.pointer (some ⟨b, 0, none⟩), .int .i64 0]) ∧ NSt w' b suite (hashM suite (begH suite ++ pro)) (begH suite) [] 0 ∧ w.grownBy w' none ∧ w.heap.size ≤ b

set_option maxRecDepth 100000 in
set_option maxHeartbeats 2000000 in
theorem code_nnew1 (w : World) (pro : List UInt8) (hp : pro.length ≤ 9223372036854774000) : Calls Tryz.prog 6 #[.int .i64 1, S pro] w (Newed w 1 pro) := by
  have A0 := code_of1
  have cv : (convert 46 9 (.slice (some ⟨w.heap.size, 0, none⟩) 1 1)).run Tryz.prog (w.alloc (.cells #[.int .u8 49] 5)) = .ok (.string ⟨#[49]⟩) (w.alloc (.cells #[.int .u8 49] 5)) := conv_byte w 49 49 rfl
  have A1 : ∀ W : World, Calls Tryz.prog 16 #[.int .i64 1, S (labL 1)] W (Grown (.tuple #[S (begH 1), .int .i64 0]) W) := fun W => code_ksum W 1 (by decide) (labL 1) (by decide)
  have lb := begH_length 1 (by decide)
  have A2 : ∀ (W : World) (b : Nat), NSt W b 1 (begH 1) (begH 1) [] 0 → Calls Tryz.prog 12 #[.pointer (some ⟨b, 0, none⟩), S pro] W (Mixed W b 1 (hashM 1 (begH 1 ++ pro)) (begH 1) [] 0) := fun W b h => code_mixhash1 W b (begH 1) (begH 1) [] pro 0 h (by omega) hp
  unfold Newed
  generalize hashM 1 (begH 1 ++ pro) = V at *
  generalize begH 1 = H at *
  have el : labL 1 = [115, 111, 117, 116, 101, 114, 114, 97, 105, 110, 32, 49] := rfl
  rw [el] at A1
  have r3 : ByteArray.mk #[115, 111, 117, 116, 101, 114, 114, 97, 105, 110, 32] ++ ByteArray.mk #[49] = ⟨#[115, 111, 117, 116, 101, 114, 114, 97, 105, 110, 32, 49]⟩ := rfl
  have A3 := fun W : World => A2 (W.alloc (.cells #[.iface 57 (.agg #[]), S H, S H, S [], .int .u64 0] 49)) W.heap.size (obj_new W _)
  rw [suV_1] at A0
  clear A2 hp el lb
  unfold S at *
  go_enter Tryz.func6, Tryz.ntmps6
  go_wp2_with fail
  (with_reducible refine (A0 _).mono ?_)
  rintro e x ⟨rfl, rfl⟩
  go_wp2_with fail
  (with_reducible refine (A1 _).mono ?_)
  rintro e x1 ⟨rfl, hg1⟩
  replace hg1 := grow_trans (World.grownBy_alloc w (.cells #[.int .u8 49] 5) none) hg1
  have HG := Lib.hid hg1
  clear hg1 cv
  go_wp2_with fail
  (with_reducible refine (A3 _).mono ?_)
  rintro e x2 ⟨rfl, hs, hg2⟩
  have HS := Lib.hid hs
  have HG2 := Lib.hid (grow_trans_new (grow_alloc HG.out _) hg2 HG.out.size)
  clear hs hg2 A3
  go_wp2_with fail
  go_ret2
  exact ⟨x1.heap.size, rfl, HS.out, HG2.out, HG.out.size⟩

set_option maxRecDepth 100000 in
set_option maxHeartbeats 2000000 in
theorem code_nnew2 (w : World) (pro : List UInt8) (hp : pro.length ≤ 9223372036854774000) : Calls Tryz.prog 6 #[.int .i64 2, S pro] w (Newed w 2 pro) := by
  have A0 := code_of2
  have cv : (convert 46 9 (.slice (some ⟨w.heap.size, 0, none⟩) 1 1)).run Tryz.prog (w.alloc (.cells #[.int .u8 50] 5)) = .ok (.string ⟨#[50]⟩) (w.alloc (.cells #[.int .u8 50] 5)) := conv_byte w 50 50 rfl
  have A1 : ∀ W : World, Calls Tryz.prog 16 #[.int .i64 2, S (labL 2)] W (Grown (.tuple #[S (begH 2), .int .i64 0]) W) := fun W => code_ksum W 2 (by decide) (labL 2) (by decide)
  have lb := begH_length 2 (by decide)
  have A2 : ∀ (W : World) (b : Nat), NSt W b 2 (begH 2) (begH 2) [] 0 → Calls Tryz.prog 12 #[.pointer (some ⟨b, 0, none⟩), S pro] W (Mixed W b 2 (hashM 2 (begH 2 ++ pro)) (begH 2) [] 0) := fun W b h => code_mixhash2 W b (begH 2) (begH 2) [] pro 0 h (by omega) hp
  unfold Newed
  generalize hashM 2 (begH 2 ++ pro) = V at *
  generalize begH 2 = H at *
  have el : labL 2 = [115, 111, 117, 116, 101, 114, 114, 97, 105, 110, 32, 50] := rfl
  rw [el] at A1
  have r3 : ByteArray.mk #[115, 111, 117, 116, 101, 114, 114, 97, 105, 110, 32] ++ ByteArray.mk #[50] = ⟨#[115, 111, 117, 116, 101, 114, 114, 97, 105, 110, 32, 50]⟩ := rfl
  have A3 := fun W : World => A2 (W.alloc (.cells #[.iface 58 (.agg #[]), S H, S H, S [], .int .u64 0] 49)) W.heap.size (obj_new W _)
  rw [suV_2] at A0
  clear A2 hp el lb
  unfold S at *
  go_enter Tryz.func6, Tryz.ntmps6
  go_wp2_with fail
  (with_reducible refine (A0 _).mono ?_)
  rintro e x ⟨rfl, rfl⟩
  go_wp2_with fail
  (with_reducible refine (A1 _).mono ?_)
  rintro e x1 ⟨rfl, hg1⟩
  replace hg1 := grow_trans (World.grownBy_alloc w (.cells #[.int .u8 50] 5) none) hg1
  have HG := Lib.hid hg1
  clear hg1 cv
  go_wp2_with fail
  (with_reducible refine (A3 _).mono ?_)
  rintro e x2 ⟨rfl, hs, hg2⟩
  have HS := Lib.hid hs
  have HG2 := Lib.hid (grow_trans_new (grow_alloc HG.out _) hg2 HG.out.size)
  clear hs hg2 A3
  go_wp2_with fail
  go_ret2
  exact ⟨x1.heap.size, rfl, HS.out, HG2.out, HG.out.size⟩

theorem code_nnew (w : World) (suite : Nat) (h12 : suite = 1 ∨ suite = 2) (pro : List UInt8) (hp : pro.length ≤ 9223372036854774000) : Calls Tryz.prog 6 #[.int .i64 (suite : Int), S pro] w (Newed w suite pro) := by
  rcases h12 with rfl | rfl
  · exact code_nnew1 w pro hp
  · exact code_nnew2 w pro hp

theorem nil_MBSeal (k : Nat) (W : World) : (nilAhead (k + 1) 57 (.agg #[]) "souterrain/noise.seal").run Tryz.prog W = .ok (some false) W := by kernel_rfl
set_option maxRecDepth 100000 in
set_option maxHeartbeats 2000000 in
theorem code_nSeal_nokey1 (w : World) (b : Nat) (hash chain text : List UInt8) (n : Nat) (h : NSt w b 1 hash chain [] n) :
    Calls Tryz.prog 8 #[.pointer (some ⟨b, 0, none⟩), S text] w fun e w' => e = .returned (.tuple #[S [], .int .i64 10]) ∧ w = w' := by
  obtain ⟨c0, c1, c2, c3, c4⟩ := h.cells
  rw [suV_1] at c0
  have NA := nil_MBSeal
  have AT : Calls Tryz.prog 17 #[.pointer (some ⟨b, 0, none⟩), S text, .func (.method "souterrain/noise.seal") #[.iface 57 (.agg #[])] #[]] w (fun e w' => e = .returned (.tuple #[S [], .int .i64 10]) ∧ w = w') := by
    unfold S at *
    go_enter Tryz.func17, Tryz.ntmps17
    go_wp2_with fail
    go_ret2
    exact ⟨rfl, rfl⟩
  unfold S at *
  go_enter Tryz.func8, Tryz.ntmps8
  go_wp2_with fail
  (with_reducible refine AT.mono ?_)
  rintro e x ⟨rfl, rfl⟩
  go_wp2_with fail
  go_ret2
  exact ⟨rfl, rfl⟩

theorem nil_MSSeal (k : Nat) (W : World) : (nilAhead (k + 1) 58 (.agg #[]) "souterrain/noise.seal").run Tryz.prog W = .ok (some false) W := by kernel_rfl
set_option maxRecDepth 100000 in
set_option maxHeartbeats 2000000 in
theorem code_nSeal_nokey2 (w : World) (b : Nat) (hash chain text : List UInt8) (n : Nat) (h : NSt w b 2 hash chain [] n) :
    Calls Tryz.prog 8 #[.pointer (some ⟨b, 0, none⟩), S text] w fun e w' => e = .returned (.tuple #[S [], .int .i64 10]) ∧ w = w' := by
  obtain ⟨c0, c1, c2, c3, c4⟩ := h.cells
  rw [suV_2] at c0
  have NA := nil_MSSeal
  have AT : Calls Tryz.prog 17 #[.pointer (some ⟨b, 0, none⟩), S text, .func (.method "souterrain/noise.seal") #[.iface 58 (.agg #[])] #[]] w (fun e w' => e = .returned (.tuple #[S [], .int .i64 10]) ∧ w = w') := by
    unfold S at *
    go_enter Tryz.func17, Tryz.ntmps17
    go_wp2_with fail
    go_ret2
    exact ⟨rfl, rfl⟩
  unfold S at *
  go_enter Tryz.func8, Tryz.ntmps8
  go_wp2_with fail
  (with_reducible refine AT.mono ?_)
  rintro e x ⟨rfl, rfl⟩
  go_wp2_with fail
  go_ret2
  exact ⟨rfl, rfl⟩

theorem nil_MBOpen (k : Nat) (W : World) : (nilAhead (k + 1) 57 (.agg #[]) "souterrain/noise.open").run Tryz.prog W = .ok (some false) W := by kernel_rfl
set_option maxRecDepth 100000 in
set_option maxHeartbeats 2000000 in
theorem code_nOpen_nokey1 (w : World) (b : Nat) (hash chain text : List UInt8) (n : Nat) (h : NSt w b 1 hash chain [] n) :
    Calls Tryz.prog 9 #[.pointer (some ⟨b, 0, none⟩), S text] w fun e w' => e = .returned (.tuple #[S [], .int .i64 10]) ∧ w = w' := by
  obtain ⟨c0, c1, c2, c3, c4⟩ := h.cells
  rw [suV_1] at c0
  have NA := nil_MBOpen
  have AT : Calls Tryz.prog 17 #[.pointer (some ⟨b, 0, none⟩), S text, .func (.method "souterrain/noise.open") #[.iface 57 (.agg #[])] #[]] w (fun e w' => e = .returned (.tuple #[S [], .int .i64 10]) ∧ w = w') := by
    unfold S at *
    go_enter Tryz.func17, Tryz.ntmps17
    go_wp2_with fail
    go_ret2
    exact ⟨rfl, rfl⟩
  unfold S at *
  go_enter Tryz.func9, Tryz.ntmps9
  go_wp2_with fail
  (with_reducible refine AT.mono ?_)
  rintro e x ⟨rfl, rfl⟩
  go_wp2_with fail
  go_ret2
  exact ⟨rfl, rfl⟩

theorem nil_MSOpen (k : Nat) (W : World) : (nilAhead (k + 1) 58 (.agg #[]) "souterrain/noise.open").run Tryz.prog W = .ok (some false) W := by kernel_rfl
set_option maxRecDepth 100000 in
set_option maxHeartbeats 2000000 in
theorem code_nOpen_nokey2 (w : World) (b : Nat) (hash chain text : List UInt8) (n : Nat) (h : NSt w b 2 hash chain [] n) :
    Calls Tryz.prog 9 #[.pointer (some ⟨b, 0, none⟩), S text] w fun e w' => e = .returned (.tuple #[S [], .int .i64 10]) ∧ w = w' := by
  obtain ⟨c0, c1, c2, c3, c4⟩ := h.cells
  rw [suV_2] at c0
  have NA := nil_MSOpen
  have AT : Calls Tryz.prog 17 #[.pointer (some ⟨b, 0, none⟩), S text, .func (.method "souterrain/noise.open") #[.iface 58 (.agg #[])] #[]] w (fun e w' => e = .returned (.tuple #[S [], .int .i64 10]) ∧ w = w') := by
    unfold S at *
    go_enter Tryz.func17, Tryz.ntmps17
    go_wp2_with fail
    go_ret2
    exact ⟨rfl, rfl⟩
  unfold S at *
  go_enter Tryz.func9, Tryz.ntmps9
  go_wp2_with fail
  (with_reducible refine AT.mono ?_)
  rintro e x ⟨rfl, rfl⟩
  go_wp2_with fail
  go_ret2
  exact ⟨rfl, rfl⟩

end Go.Proofs.YtffeekfofbcobaaGreat

namespace Go.Proofs.YtffeekfofbcobaaGreat
open Go.RowKit
set_option linter.unusedVariables false

set_option maxRecDepth 100000 in
theorem code_nBSeal (w : World) (key nonce more text a : List UInt8) (n : Int) (C : ∀ W : World, Calls Tryz.prog 75 #[S key, S nonce, S more, S text] W (Grown (.tuple #[S a, .int .i64 n]) W)) :
    Calls Tryz.prog 73 #[.agg #[], S key, S nonce, S more, S text] w (Grown (.tuple #[S a, .int .i64 n]) w) := by
  have C1 := C (w.alloc (.cells #[] 57))
  clear C
  unfold S at *
  go_enter Tryz.func73, Tryz.ntmps73
  go_wp2_with fail
  (with_reducible refine C1.mono ?_)
  rintro e x ⟨rfl, hg⟩
  go_wp2_with fail
  go_ret2
  exact ⟨rfl, grow_trans (World.grownBy_alloc _ _ _) hg⟩

set_option maxRecDepth 100000 in
theorem code_nBOpen (w : World) (key nonce more text a : List UInt8) (n : Int) (C : ∀ W : World, Calls Tryz.prog 74 #[S key, S nonce, S more, S text] W (Grown (.tuple #[S a, .int .i64 n]) W)) :
    Calls Tryz.prog 72 #[.agg #[], S key, S nonce, S more, S text] w (Grown (.tuple #[S a, .int .i64 n]) w) := by
  have C1 := C (w.alloc (.cells #[] 57))
  clear C
  unfold S at *
  go_enter Tryz.func72, Tryz.ntmps72
  go_wp2_with fail
  (with_reducible refine C1.mono ?_)
  rintro e x ⟨rfl, hg⟩
  go_wp2_with fail
  go_ret2
  exact ⟨rfl, grow_trans (World.grownBy_alloc _ _ _) hg⟩

set_option maxRecDepth 100000 in
theorem code_nSSeal (w : World) (key nonce more text a : List UInt8) (n : Int) (C : ∀ W : World, Calls Tryz.prog 99 #[S key, S nonce, S more, S text] W (Grown (.tuple #[S a, .int .i64 n]) W)) :
    Calls Tryz.prog 97 #[.agg #[], S key, S nonce, S more, S text] w (Grown (.tuple #[S a, .int .i64 n]) w) := by
  have C1 := C (w.alloc (.cells #[] 58))
  clear C
  unfold S at *
  go_enter Tryz.func97, Tryz.ntmps97
  go_wp2_with fail
  (with_reducible refine C1.mono ?_)
  rintro e x ⟨rfl, hg⟩
  go_wp2_with fail
  go_ret2
  exact ⟨rfl, grow_trans (World.grownBy_alloc _ _ _) hg⟩

set_option maxRecDepth 100000 in
theorem code_nSOpen (w : World) (key nonce more text a : List UInt8) (n : Int) (C : ∀ W : World, Calls Tryz.prog 98 #[S key, S nonce, S more, S text] W (Grown (.tuple #[S a, .int .i64 n]) W)) :
    Calls Tryz.prog 96 #[.agg #[], S key, S nonce, S more, S text] w (Grown (.tuple #[S a, .int .i64 n]) w) := by
  have C1 := C (w.alloc (.cells #[] 58))
  clear C
  unfold S at *
  go_enter Tryz.func96, Tryz.ntmps96
  go_wp2_with fail
  (with_reducible refine C1.mono ?_)
  rintro e x ⟨rfl, hg⟩
  go_wp2_with fail
  go_ret2
  exact ⟨rfl, grow_trans (World.grownBy_alloc _ _ _) hg⟩

end Go.Proofs.YtffeekfofbcobaaGreat

namespace Go.Proofs.YtffeekfofbcobaaGreat
open Go.RowKit
set_option linter.unusedVariables false

theorem empty_no {l : List UInt8} (h : l.length = 32) : (l == []) = false := by
  rw [beq_eq_false_iff_ne]
  intro e
  rw [e] at h
  simp at h

set_option maxRecDepth 100000 in
set_option maxHeartbeats 4000000 in
theorem thrSeal1_ok (w : World) (b : Nat) (hash chain key text a : List UInt8) (n : Nat) (h : NSt w b 1 hash chain key n) (hk : key.length = 32) (hn : n < 18446744073709551000)
    (C : ∀ W : World, Calls Tryz.prog 73 #[.agg #[], S key, S (nonL 1 n), S hash, S text] W (Grown (.tuple #[S a, .int .i64 0]) W)) :
    Calls Tryz.prog 17 #[.pointer (some ⟨b, 0, none⟩), S text, .func (.method "souterrain/noise.seal") #[.iface 57 (.agg #[])] #[]] w (fun e w' => e = .returned (.tuple #[S a, .int .i64 0]) ∧ NSt w' b 1 hash chain key (n + 1) ∧ w.grownBy w' (some b)) := by
  obtain ⟨c0, c1, c2, c3, c4⟩ := h.cells
  rw [suV_1] at c0
  have f4 := Blk.frozen h 4
  have A1 := fun W : World => code_bnonce W n (by omega)
  have ne := empty_no hk
  have ne2 : key.isEmpty = false := by rw [List.isEmpty_eq_false_iff]; intro e; rw [e] at hk; simp at hk
  have ne3 : key ≠ [] := by intro e; rw [e] at hk; simp at hk
  have w1 : IntKind.u64.wrap ((n : Int) + 1) = (n : Int) + 1 := IntWalk.u64_in _ (by omega)
  have H := Lib.hid h
  generalize nonL 1 n = O at *
  clear c2 h hk
  unfold S at *
  go_enter Tryz.func17, Tryz.ntmps17
  go_wp2_with fail
  go_region_held3 (fun W => W.cell? ⟨b, 0, none⟩ = some (.iface 57 (.agg #[])) ∧ W.cell? ⟨b, 1, none⟩ = some (.string ⟨hash.toArray⟩) ∧ W.cell? ⟨b, 3, none⟩ = some (.string ⟨key.toArray⟩) ∧ W.cell? ⟨b, 4, none⟩ = some (.int .u64 (n : Int))) (first | exact ⟨c0, c1, c3, c4⟩ | exact ⟨d0, d1, d3, d4⟩ | exact ⟨e0, e1, e3, e4⟩) (first
    | (go_at_call 71; (with_reducible refine (A1 _).mono ?_); rintro e x1 ⟨rfl, hg1⟩; have H1 : NSt x1 b 1 hash chain key n := Blk.kept (Blk.drew H.out) hg1 nofun; obtain ⟨d0, d1, d2, d3, d4⟩ := H1.cells; unfold S at d1 d2 d3; rw [suV_1] at d0; clear d2)
    | (go_at_call 73; (with_reducible refine (C _).mono ?_); rintro e x2 ⟨rfl, hg2⟩; have H2 : NSt x2 b 1 hash chain key n := Blk.kept H1 hg2 nofun; obtain ⟨e0, e1, e2, e3, e4⟩ := H2.cells; unfold S at e1 e2 e3; rw [suV_1] at e0; have g4 := Blk.frozen H2 4))
  all_goals
    have HG := Lib.hid (grow_trans (grow_trans (grow_drew (grow_refl w none)) hg1) hg2)
    have HH := Lib.hid H2
    clear hg1 hg2 H1 H2 d0 d1 d3 d4 e0 e1 e2 e3
    go_wp2_with fail
    go_ret2
    exact ⟨rfl, Blk.set HH.out 4 (.int .u64 ((n : Int) + 1)), grow_setCell (grow_none HG.out) 4 _⟩

set_option maxRecDepth 100000 in
set_option maxHeartbeats 4000000 in
theorem thrSeal1_err (w : World) (b : Nat) (hash chain key text a : List UInt8) (n : Nat) (c : Int) (hc : (c == 0) = false) (h : NSt w b 1 hash chain key n) (hk : key.length = 32) (hn : n < 18446744073709551000)
    (C : ∀ W : World, Calls Tryz.prog 73 #[.agg #[], S key, S (nonL 1 n), S hash, S text] W (Grown (.tuple #[S a, .int .i64 c]) W)) :
    Calls Tryz.prog 17 #[.pointer (some ⟨b, 0, none⟩), S text, .func (.method "souterrain/noise.seal") #[.iface 57 (.agg #[])] #[]] w (fun e w' => e = .returned (.tuple #[S a, .int .i64 c]) ∧ w.grownBy w' none) := by
  obtain ⟨c0, c1, c2, c3, c4⟩ := h.cells
  rw [suV_1] at c0
  have f4 := Blk.frozen h 4
  have A1 := fun W : World => code_bnonce W n (by omega)
  have ne := empty_no hk
  have ne2 : key.isEmpty = false := by rw [List.isEmpty_eq_false_iff]; intro e; rw [e] at hk; simp at hk
  have ne3 : key ≠ [] := by intro e; rw [e] at hk; simp at hk
  have w1 : IntKind.u64.wrap ((n : Int) + 1) = (n : Int) + 1 := IntWalk.u64_in _ (by omega)
  have H := Lib.hid h
  generalize nonL 1 n = O at *
  clear c2 h hk
  unfold S at *
  go_enter Tryz.func17, Tryz.ntmps17
  go_wp2_with fail
  go_region_held3 (fun W => W.cell? ⟨b, 0, none⟩ = some (.iface 57 (.agg #[])) ∧ W.cell? ⟨b, 1, none⟩ = some (.string ⟨hash.toArray⟩) ∧ W.cell? ⟨b, 3, none⟩ = some (.string ⟨key.toArray⟩) ∧ W.cell? ⟨b, 4, none⟩ = some (.int .u64 (n : Int))) (first | exact ⟨c0, c1, c3, c4⟩ | exact ⟨d0, d1, d3, d4⟩ | exact ⟨e0, e1, e3, e4⟩) (first
    | (go_at_call 71; (with_reducible refine (A1 _).mono ?_); rintro e x1 ⟨rfl, hg1⟩; have H1 : NSt x1 b 1 hash chain key n := Blk.kept (Blk.drew H.out) hg1 nofun; obtain ⟨d0, d1, d2, d3, d4⟩ := H1.cells; unfold S at d1 d2 d3; rw [suV_1] at d0; clear d2)
    | (go_at_call 73; (with_reducible refine (C _).mono ?_); rintro e x2 ⟨rfl, hg2⟩; have H2 : NSt x2 b 1 hash chain key n := Blk.kept H1 hg2 nofun; obtain ⟨e0, e1, e2, e3, e4⟩ := H2.cells; unfold S at e1 e2 e3; rw [suV_1] at e0; have g4 := Blk.frozen H2 4))
  all_goals
    have HG := Lib.hid (grow_trans (grow_trans (grow_drew (grow_refl w none)) hg1) hg2)
    have HH := Lib.hid H2
    clear hg1 hg2 H1 H2 d0 d1 d3 d4 e0 e1 e2 e3
    go_wp2_with fail
    go_ret2
    exact ⟨rfl, HG.out⟩

set_option maxRecDepth 100000 in
set_option maxHeartbeats 4000000 in
theorem thrSeal2_ok (w : World) (b : Nat) (hash chain key text a : List UInt8) (n : Nat) (h : NSt w b 2 hash chain key n) (hk : key.length = 32) (hn : n < 18446744073709551000)
    (C : ∀ W : World, Calls Tryz.prog 97 #[.agg #[], S key, S (nonL 2 n), S hash, S text] W (Grown (.tuple #[S a, .int .i64 0]) W)) :
    Calls Tryz.prog 17 #[.pointer (some ⟨b, 0, none⟩), S text, .func (.method "souterrain/noise.seal") #[.iface 58 (.agg #[])] #[]] w (fun e w' => e = .returned (.tuple #[S a, .int .i64 0]) ∧ NSt w' b 2 hash chain key (n + 1) ∧ w.grownBy w' (some b)) := by
  obtain ⟨c0, c1, c2, c3, c4⟩ := h.cells
  rw [suV_2] at c0
  have f4 := Blk.frozen h 4
  have A1 := fun W : World => code_snonce W n (by omega)
  have ne := empty_no hk
  have ne2 : key.isEmpty = false := by rw [List.isEmpty_eq_false_iff]; intro e; rw [e] at hk; simp at hk
  have ne3 : key ≠ [] := by intro e; rw [e] at hk; simp at hk
  have w1 : IntKind.u64.wrap ((n : Int) + 1) = (n : Int) + 1 := IntWalk.u64_in _ (by omega)
  have H := Lib.hid h
  generalize nonL 2 n = O at *
  clear c2 h hk
  unfold S at *
  go_enter Tryz.func17, Tryz.ntmps17
  go_wp2_with fail
  go_region_held3 (fun W => W.cell? ⟨b, 0, none⟩ = some (.iface 58 (.agg #[])) ∧ W.cell? ⟨b, 1, none⟩ = some (.string ⟨hash.toArray⟩) ∧ W.cell? ⟨b, 3, none⟩ = some (.string ⟨key.toArray⟩) ∧ W.cell? ⟨b, 4, none⟩ = some (.int .u64 (n : Int))) (first | exact ⟨c0, c1, c3, c4⟩ | exact ⟨d0, d1, d3, d4⟩ | exact ⟨e0, e1, e3, e4⟩) (first
    | (go_at_call 95; (with_reducible refine (A1 _).mono ?_); rintro e x1 ⟨rfl, hg1⟩; have H1 : NSt x1 b 2 hash chain key n := Blk.kept (Blk.drew H.out) hg1 nofun; obtain ⟨d0, d1, d2, d3, d4⟩ := H1.cells; unfold S at d1 d2 d3; rw [suV_2] at d0; clear d2)
    | (go_at_call 97; (with_reducible refine (C _).mono ?_); rintro e x2 ⟨rfl, hg2⟩; have H2 : NSt x2 b 2 hash chain key n := Blk.kept H1 hg2 nofun; obtain ⟨e0, e1, e2, e3, e4⟩ := H2.cells; unfold S at e1 e2 e3; rw [suV_2] at e0; have g4 := Blk.frozen H2 4))
  all_goals
    have HG := Lib.hid (grow_trans (grow_trans (grow_drew (grow_refl w none)) hg1) hg2)
    have HH := Lib.hid H2
    clear hg1 hg2 H1 H2 d0 d1 d3 d4 e0 e1 e2 e3
    go_wp2_with fail
    go_ret2
    exact ⟨rfl, Blk.set HH.out 4 (.int .u64 ((n : Int) + 1)), grow_setCell (grow_none HG.out) 4 _⟩

set_option maxRecDepth 100000 in
set_option maxHeartbeats 4000000 in
theorem thrSeal2_err (w : World) (b : Nat) (hash chain key text a : List UInt8) (n : Nat) (c : Int) (hc : (c == 0) = false) (h : NSt w b 2 hash chain key n) (hk : key.length = 32) (hn : n < 18446744073709551000)
    (C : ∀ W : World, Calls Tryz.prog 97 #[.agg #[], S key, S (nonL 2 n), S hash, S text] W (Grown (.tuple #[S a, .int .i64 c]) W)) :
    Calls Tryz.prog 17 #[.pointer (some ⟨b, 0, none⟩), S text, .func (.method "souterrain/noise.seal") #[.iface 58 (.agg #[])] #[]] w (fun e w' => e = .returned (.tuple #[S a, .int .i64 c]) ∧ w.grownBy w' none) := by
  obtain ⟨c0, c1, c2, c3, c4⟩ := h.cells
  rw [suV_2] at c0
  have f4 := Blk.frozen h 4
  have A1 := fun W : World => code_snonce W n (by omega)
  have ne := empty_no hk
  have ne2 : key.isEmpty = false := by rw [List.isEmpty_eq_false_iff]; intro e; rw [e] at hk; simp at hk
  have ne3 : key ≠ [] := by intro e; rw [e] at hk; simp at hk
  have w1 : IntKind.u64.wrap ((n : Int) + 1) = (n : Int) + 1 := IntWalk.u64_in _ (by omega)
  have H := Lib.hid h
  generalize nonL 2 n = O at *
  clear c2 h hk
  unfold S at *
  go_enter Tryz.func17, Tryz.ntmps17
  go_wp2_with fail
  go_region_held3 (fun W => W.cell? ⟨b, 0, none⟩ = some (.iface 58 (.agg #[])) ∧ W.cell? ⟨b, 1, none⟩ = some (.string ⟨hash.toArray⟩) ∧ W.cell? ⟨b, 3, none⟩ = some (.string ⟨key.toArray⟩) ∧ W.cell? ⟨b, 4, none⟩ = some (.int .u64 (n : Int))) (first | exact ⟨c0, c1, c3, c4⟩ | exact ⟨d0, d1, d3, d4⟩ | exact ⟨e0, e1, e3, e4⟩) (first
    | (go_at_call 95; (with_reducible refine (A1 _).mono ?_); rintro e x1 ⟨rfl, hg1⟩; have H1 : NSt x1 b 2 hash chain key n := Blk.kept (Blk.drew H.out) hg1 nofun; obtain ⟨d0, d1, d2, d3, d4⟩ := H1.cells; unfold S at d1 d2 d3; rw [suV_2] at d0; clear d2)
    | (go_at_call 97; (with_reducible refine (C _).mono ?_); rintro e x2 ⟨rfl, hg2⟩; have H2 : NSt x2 b 2 hash chain key n := Blk.kept H1 hg2 nofun; obtain ⟨e0, e1, e2, e3, e4⟩ := H2.cells; unfold S at e1 e2 e3; rw [suV_2] at e0; have g4 := Blk.frozen H2 4))
  all_goals
    have HG := Lib.hid (grow_trans (grow_trans (grow_drew (grow_refl w none)) hg1) hg2)
    have HH := Lib.hid H2
    clear hg1 hg2 H1 H2 d0 d1 d3 d4 e0 e1 e2 e3
    go_wp2_with fail
    go_ret2
    exact ⟨rfl, HG.out⟩

set_option maxRecDepth 100000 in
set_option maxHeartbeats 4000000 in
theorem thrOpen1_ok (w : World) (b : Nat) (hash chain key text a : List UInt8) (n : Nat) (h : NSt w b 1 hash chain key n) (hk : key.length = 32) (hn : n < 18446744073709551000)
    (C : ∀ W : World, Calls Tryz.prog 72 #[.agg #[], S key, S (nonL 1 n), S hash, S text] W (Grown (.tuple #[S a, .int .i64 0]) W)) :
    Calls Tryz.prog 17 #[.pointer (some ⟨b, 0, none⟩), S text, .func (.method "souterrain/noise.open") #[.iface 57 (.agg #[])] #[]] w (fun e w' => e = .returned (.tuple #[S a, .int .i64 0]) ∧ NSt w' b 1 hash chain key (n + 1) ∧ w.grownBy w' (some b)) := by
  obtain ⟨c0, c1, c2, c3, c4⟩ := h.cells
  rw [suV_1] at c0
  have f4 := Blk.frozen h 4
  have A1 := fun W : World => code_bnonce W n (by omega)
  have ne := empty_no hk
  have ne2 : key.isEmpty = false := by rw [List.isEmpty_eq_false_iff]; intro e; rw [e] at hk; simp at hk
  have ne3 : key ≠ [] := by intro e; rw [e] at hk; simp at hk
  have w1 : IntKind.u64.wrap ((n : Int) + 1) = (n : Int) + 1 := IntWalk.u64_in _ (by omega)
  have H := Lib.hid h
  generalize nonL 1 n = O at *
  clear c2 h hk
  unfold S at *
  go_enter Tryz.func17, Tryz.ntmps17
  go_wp2_with fail
  go_region_held3 (fun W => W.cell? ⟨b, 0, none⟩ = some (.iface 57 (.agg #[])) ∧ W.cell? ⟨b, 1, none⟩ = some (.string ⟨hash.toArray⟩) ∧ W.cell? ⟨b, 3, none⟩ = some (.string ⟨key.toArray⟩) ∧ W.cell? ⟨b, 4, none⟩ = some (.int .u64 (n : Int))) (first | exact ⟨c0, c1, c3, c4⟩ | exact ⟨d0, d1, d3, d4⟩ | exact ⟨e0, e1, e3, e4⟩) (first
    | (go_at_call 71; (with_reducible refine (A1 _).mono ?_); rintro e x1 ⟨rfl, hg1⟩; have H1 : NSt x1 b 1 hash chain key n := Blk.kept (Blk.drew H.out) hg1 nofun; obtain ⟨d0, d1, d2, d3, d4⟩ := H1.cells; unfold S at d1 d2 d3; rw [suV_1] at d0; clear d2)
    | (go_at_call 72; (with_reducible refine (C _).mono ?_); rintro e x2 ⟨rfl, hg2⟩; have H2 : NSt x2 b 1 hash chain key n := Blk.kept H1 hg2 nofun; obtain ⟨e0, e1, e2, e3, e4⟩ := H2.cells; unfold S at e1 e2 e3; rw [suV_1] at e0; have g4 := Blk.frozen H2 4))
  all_goals
    have HG := Lib.hid (grow_trans (grow_trans (grow_drew (grow_refl w none)) hg1) hg2)
    have HH := Lib.hid H2
    clear hg1 hg2 H1 H2 d0 d1 d3 d4 e0 e1 e2 e3
    go_wp2_with fail
    go_ret2
    exact ⟨rfl, Blk.set HH.out 4 (.int .u64 ((n : Int) + 1)), grow_setCell (grow_none HG.out) 4 _⟩

set_option maxRecDepth 100000 in
set_option maxHeartbeats 4000000 in
theorem thrOpen1_err (w : World) (b : Nat) (hash chain key text a : List UInt8) (n : Nat) (c : Int) (hc : (c == 0) = false) (h : NSt w b 1 hash chain key n) (hk : key.length = 32) (hn : n < 18446744073709551000)
    (C : ∀ W : World, Calls Tryz.prog 72 #[.agg #[], S key, S (nonL 1 n), S hash, S text] W (Grown (.tuple #[S a, .int .i64 c]) W)) :
    Calls Tryz.prog 17 #[.pointer (some ⟨b, 0, none⟩), S text, .func (.method "souterrain/noise.open") #[.iface 57 (.agg #[])] #[]] w (fun e w' => e = .returned (.tuple #[S a, .int .i64 c]) ∧ w.grownBy w' none) := by
  obtain ⟨c0, c1, c2, c3, c4⟩ := h.cells
  rw [suV_1] at c0
  have f4 := Blk.frozen h 4
  have A1 := fun W : World => code_bnonce W n (by omega)
  have ne := empty_no hk
  have ne2 : key.isEmpty = false := by rw [List.isEmpty_eq_false_iff]; intro e; rw [e] at hk; simp at hk
  have ne3 : key ≠ [] := by intro e; rw [e] at hk; simp at hk
  have w1 : IntKind.u64.wrap ((n : Int) + 1) = (n : Int) + 1 := IntWalk.u64_in _ (by omega)
  have H := Lib.hid h
  generalize nonL 1 n = O at *
  clear c2 h hk
  unfold S at *
  go_enter Tryz.func17, Tryz.ntmps17
  go_wp2_with fail
  go_region_held3 (fun W => W.cell? ⟨b, 0, none⟩ = some (.iface 57 (.agg #[])) ∧ W.cell? ⟨b, 1, none⟩ = some (.string ⟨hash.toArray⟩) ∧ W.cell? ⟨b, 3, none⟩ = some (.string ⟨key.toArray⟩) ∧ W.cell? ⟨b, 4, none⟩ = some (.int .u64 (n : Int))) (first | exact ⟨c0, c1, c3, c4⟩ | exact ⟨d0, d1, d3, d4⟩ | exact ⟨e0, e1, e3, e4⟩) (first
    | (go_at_call 71; (with_reducible refine (A1 _).mono ?_); rintro e x1 ⟨rfl, hg1⟩; have H1 : NSt x1 b 1 hash chain key n := Blk.kept (Blk.drew H.out) hg1 nofun; obtain ⟨d0, d1, d2, d3, d4⟩ := H1.cells; unfold S at d1 d2 d3; rw [suV_1] at d0; clear d2)
    | (go_at_call 72; (with_reducible refine (C _).mono ?_); rintro e x2 ⟨rfl, hg2⟩; have H2 : NSt x2 b 1 hash chain key n := Blk.kept H1 hg2 nofun; obtain ⟨e0, e1, e2, e3, e4⟩ := H2.cells; unfold S at e1 e2 e3; rw [suV_1] at e0; have g4 := Blk.frozen H2 4))
  all_goals
    have HG := Lib.hid (grow_trans (grow_trans (grow_drew (grow_refl w none)) hg1) hg2)
    have HH := Lib.hid H2
    clear hg1 hg2 H1 H2 d0 d1 d3 d4 e0 e1 e2 e3
    go_wp2_with fail
    go_ret2
    exact ⟨rfl, HG.out⟩

set_option maxRecDepth 100000 in
set_option maxHeartbeats 4000000 in
theorem thrOpen2_ok (w : World) (b : Nat) (hash chain key text a : List UInt8) (n : Nat) (h : NSt w b 2 hash chain key n) (hk : key.length = 32) (hn : n < 18446744073709551000)
    (C : ∀ W : World, Calls Tryz.prog 96 #[.agg #[], S key, S (nonL 2 n), S hash, S text] W (Grown (.tuple #[S a, .int .i64 0]) W)) :
    Calls Tryz.prog 17 #[.pointer (some ⟨b, 0, none⟩), S text, .func (.method "souterrain/noise.open") #[.iface 58 (.agg #[])] #[]] w (fun e w' => e = .returned (.tuple #[S a, .int .i64 0]) ∧ NSt w' b 2 hash chain key (n + 1) ∧ w.grownBy w' (some b)) := by
  obtain ⟨c0, c1, c2, c3, c4⟩ := h.cells
  rw [suV_2] at c0
  have f4 := Blk.frozen h 4
  have A1 := fun W : World => code_snonce W n (by omega)
  have ne := empty_no hk
  have ne2 : key.isEmpty = false := by rw [List.isEmpty_eq_false_iff]; intro e; rw [e] at hk; simp at hk
  have ne3 : key ≠ [] := by intro e; rw [e] at hk; simp at hk
  have w1 : IntKind.u64.wrap ((n : Int) + 1) = (n : Int) + 1 := IntWalk.u64_in _ (by omega)
  have H := Lib.hid h
  generalize nonL 2 n = O at *
  clear c2 h hk
  unfold S at *
  go_enter Tryz.func17, Tryz.ntmps17
  go_wp2_with fail
  go_region_held3 (fun W => W.cell? ⟨b, 0, none⟩ = some (.iface 58 (.agg #[])) ∧ W.cell? ⟨b, 1, none⟩ = some (.string ⟨hash.toArray⟩) ∧ W.cell? ⟨b, 3, none⟩ = some (.string ⟨key.toArray⟩) ∧ W.cell? ⟨b, 4, none⟩ = some (.int .u64 (n : Int))) (first | exact ⟨c0, c1, c3, c4⟩ | exact ⟨d0, d1, d3, d4⟩ | exact ⟨e0, e1, e3, e4⟩) (first
    | (go_at_call 95; (with_reducible refine (A1 _).mono ?_); rintro e x1 ⟨rfl, hg1⟩; have H1 : NSt x1 b 2 hash chain key n := Blk.kept (Blk.drew H.out) hg1 nofun; obtain ⟨d0, d1, d2, d3, d4⟩ := H1.cells; unfold S at d1 d2 d3; rw [suV_2] at d0; clear d2)
    | (go_at_call 96; (with_reducible refine (C _).mono ?_); rintro e x2 ⟨rfl, hg2⟩; have H2 : NSt x2 b 2 hash chain key n := Blk.kept H1 hg2 nofun; obtain ⟨e0, e1, e2, e3, e4⟩ := H2.cells; unfold S at e1 e2 e3; rw [suV_2] at e0; have g4 := Blk.frozen H2 4))
  all_goals
    have HG := Lib.hid (grow_trans (grow_trans (grow_drew (grow_refl w none)) hg1) hg2)
    have HH := Lib.hid H2
    clear hg1 hg2 H1 H2 d0 d1 d3 d4 e0 e1 e2 e3
    go_wp2_with fail
    go_ret2
    exact ⟨rfl, Blk.set HH.out 4 (.int .u64 ((n : Int) + 1)), grow_setCell (grow_none HG.out) 4 _⟩

set_option maxRecDepth 100000 in
set_option maxHeartbeats 4000000 in
theorem thrOpen2_err (w : World) (b : Nat) (hash chain key text a : List UInt8) (n : Nat) (c : Int) (hc : (c == 0) = false) (h : NSt w b 2 hash chain key n) (hk : key.length = 32) (hn : n < 18446744073709551000)
    (C : ∀ W : World, Calls Tryz.prog 96 #[.agg #[], S key, S (nonL 2 n), S hash, S text] W (Grown (.tuple #[S a, .int .i64 c]) W)) :
    Calls Tryz.prog 17 #[.pointer (some ⟨b, 0, none⟩), S text, .func (.method "souterrain/noise.open") #[.iface 58 (.agg #[])] #[]] w (fun e w' => e = .returned (.tuple #[S a, .int .i64 c]) ∧ w.grownBy w' none) := by
  obtain ⟨c0, c1, c2, c3, c4⟩ := h.cells
  rw [suV_2] at c0
  have f4 := Blk.frozen h 4
  have A1 := fun W : World => code_snonce W n (by omega)
  have ne := empty_no hk
  have ne2 : key.isEmpty = false := by rw [List.isEmpty_eq_false_iff]; intro e; rw [e] at hk; simp at hk
  have ne3 : key ≠ [] := by intro e; rw [e] at hk; simp at hk
  have w1 : IntKind.u64.wrap ((n : Int) + 1) = (n : Int) + 1 := IntWalk.u64_in _ (by omega)
  have H := Lib.hid h
  generalize nonL 2 n = O at *
  clear c2 h hk
  unfold S at *
  go_enter Tryz.func17, Tryz.ntmps17
  go_wp2_with fail
  go_region_held3 (fun W => W.cell? ⟨b, 0, none⟩ = some (.iface 58 (.agg #[])) ∧ W.cell? ⟨b, 1, none⟩ = some (.string ⟨hash.toArray⟩) ∧ W.cell? ⟨b, 3, none⟩ = some (.string ⟨key.toArray⟩) ∧ W.cell? ⟨b, 4, none⟩ = some (.int .u64 (n : Int))) (first | exact ⟨c0, c1, c3, c4⟩ | exact ⟨d0, d1, d3, d4⟩ | exact ⟨e0, e1, e3, e4⟩) (first
    | (go_at_call 95; (with_reducible refine (A1 _).mono ?_); rintro e x1 ⟨rfl, hg1⟩; have H1 : NSt x1 b 2 hash chain key n := Blk.kept (Blk.drew H.out) hg1 nofun; obtain ⟨d0, d1, d2, d3, d4⟩ := H1.cells; unfold S at d1 d2 d3; rw [suV_2] at d0; clear d2)
    | (go_at_call 96; (with_reducible refine (C _).mono ?_); rintro e x2 ⟨rfl, hg2⟩; have H2 : NSt x2 b 2 hash chain key n := Blk.kept H1 hg2 nofun; obtain ⟨e0, e1, e2, e3, e4⟩ := H2.cells; unfold S at e1 e2 e3; rw [suV_2] at e0; have g4 := Blk.frozen H2 4))
  all_goals
    have HG := Lib.hid (grow_trans (grow_trans (grow_drew (grow_refl w none)) hg1) hg2)
    have HH := Lib.hid H2
    clear hg1 hg2 H1 H2 d0 d1 d3 d4 e0 e1 e2 e3
    go_wp2_with fail
    go_ret2
    exact ⟨rfl, HG.out⟩

end Go.Proofs.YtffeekfofbcobaaGreat

namespace Go.Proofs.YtffeekfofbcobaaGreat
open Go.RowKit
set_option linter.unusedVariables false

def colK (y b : List UInt8) (i : Nat) : List UInt8 := (colsL y b).take i ++ b.drop i
theorem colK_length (y b : List UInt8) (hb : b.length = 16) (i : Nat) : (colK y b i).length = 16 := by
  unfold colK
  rw [List.length_append, List.length_take, List.length_drop, colsL_length, hb]
  omega
theorem colK_set (y b : List UInt8) (hb : b.length = 16) (i : Nat) (hi : i < 16) : (colK y b i).set i (colF y b i 4) = colK y b (i + 1) := by
  have e1 : (colsL y b)[i]'(by rw [colsL_length]; exact hi) = colF y b i 4 := by
    unfold colsL
    rw [List.getElem_map, List.getElem_range]
  have e2 : b.drop i = b[i]'(by omega) :: b.drop (i + 1) := List.drop_eq_getElem_cons _
  unfold colK
  rw [List.set_append_right _ _ (by rw [List.length_take]; omega), List.length_take, colsL_length, Nat.min_eq_left (Nat.le_of_lt hi), Nat.sub_self, e2, List.set_cons_zero]
  rw [List.take_succ_eq_append_getElem (by rw [colsL_length]; exact hi), e1, List.append_assoc]
  rfl

def YB (w : World) (B : Nat) (l : List UInt8) : Prop := Blk w B 166 (l.map bcell)
theorem YB.cell {w : World} {B : Nat} {l : List UInt8} (h : YB w B l) (i : Nat) (hi : i < l.length) : w.cell? ⟨B, i, none⟩ = some (.int .u8 (l[i].toNat : Int)) := by
  rw [Blk.cell h]
  simp [bcell, hi]

set_option maxRecDepth 20000 in
set_option maxHeartbeats 1000000 in
theorem code_acols (w : World) (B : Nat) (y l : List UInt8) (hB : BB w B l) (hl : l.length = 16) (hy : y.length = 4) :
    Calls Tryz.prog 120 #[.pointer (some ⟨B, 0, none⟩), .agg (y.map bcell).toArray] w fun e w' => e = .returned (.tuple #[]) ∧ BB w' B (colsL y l) ∧ w.grownBy w' (some B) := by
  have HL := Lib.hid hl
  have HY := Lib.hid hy
  have info16 : (Tryz.prog.info? 172).map (·.size) = some (l.map bcell).length := by rw [List.length_map, hl]; kernel_rfl
  have HI := Lib.hid info16
  have hsv := fun W : World => run_store_new (P := Tryz.prog) W #[.int .u8 0, .int .u8 0, .int .u8 0, .int .u8 0, .int .u8 0, .int .u8 0, .int .u8 0, .int .u8 0, .int .u8 0, .int .u8 0, .int .u8 0, .int .u8 0, .int .u8 0, .int .u8 0, .int .u8 0, .int .u8 0] 172 (l.map bcell) (by simp [hl]) (by intro v hv; obtain ⟨c, _, rfl⟩ := List.mem_map.1 hv; rfl)
  clear hl hy info16
  go_enter Tryz.func120, Tryz.ntmps120
  go_upto_region 1 with (fail)
  have hBx : BB (w.alloc (.cells (y.map bcell).toArray 166)) B l := Blk.kept hB (World.grownBy_alloc _ _ none) (by simp)
  have hYx : YB (w.alloc (.cells (y.map bcell).toArray 166)) w.heap.size y := Blk.new w _ _
  have hgx : w.grownBy (w.alloc (.cells (y.map bcell).toArray 166)) (some B) := grow_alloc (grow_refl w _) _
  have hBY : B < w.heap.size := Blk.lt hB
  generalize w.alloc (.cells (y.map bcell).toArray 166) = v at *
  obtain ⟨Y, hY⟩ : ∃ Y, Y = w.heap.size := ⟨_, rfl⟩
  rw [← hY] at hYx hBY ⊢
  clear hY hB
  refine wp_region_lit ?_
  refine Go.Great.wpList_readTo rfl _ rfl (.pointer (some ⟨B, 0, none⟩)) rfl ?_
  refine Go.Great.wpList_readTo rfl _ rfl (.pointer (some ⟨B, 0, none⟩)) rfl ?_
  refine wpList_load_mid rfl 172 _ rfl B 0 rfl (l.map bcell) _ (Blk.range hBx) Tryz.underlying172 rfl HI.out ?_
  go_upto_region 2 with (fail)
  clear hsv
  have hYlt : Y < v.heap.size := Blk.lt hYx
  have hC0 : BB (v.alloc (.cells (l.map bcell).toArray 172)) v.heap.size l := Blk.new v _ _
  have hY0 : YB (v.alloc (.cells (l.map bcell).toArray 172)) Y y := Blk.kept hYx (World.grownBy_alloc _ _ none) (by simp)
  have hB0 : BB (v.alloc (.cells (l.map bcell).toArray 172)) B (colK y l 0) := Blk.kept hBx (World.grownBy_alloc _ _ none) (by simp)
  have hg0 : w.grownBy (v.alloc (.cells (l.map bcell).toArray 172)) (some B) := grow_alloc hgx _
  obtain ⟨C, hC⟩ : ∃ C, C = v.heap.size := ⟨_, rfl⟩
  rw [← hC] at hC0 hYlt ⊢
  clear hC hYx hBx hgx
  generalize v.alloc (.cells (l.map bcell).toArray 172) = x at *
  have HC := Lib.hid hC0
  have HYY := Lib.hid hY0
  clear hC0 hY0
  go_wp2_with fail
  go_loopw [12] (fun vi wr => ∃ i : Nat, i ≤ 16 ∧ vi = .int .i64 i ∧ BB wr B (colK y l i) ∧ x.grownBy wr (some B)) (fun vi _ => 16 - (intOf vi).toNat)
  case atStart => exact ⟨0, by omega, rfl, hB0, grow_refl _ _⟩
  case round =>
    clear hB0
    obtain ⟨i, hi, rfl, hK, hg⟩ := hrel
    have kl := colK_length y l HL.out i
    by_cases hlt : i < 16
    · have hs := Lib.hid (colK_set y l HL.out i hlt)
      have hd : decide ((i : Int) < 16) = true := by simp; omega
      have ci := hK.cell i (by omega)
      have fi := Blk.frozen hK i
      have hst : BB (wr.setCell ⟨B, i, none⟩ (.int .u8 0)) B ((colK y l i).set i (colF y l i 0)) := hK.set i 0
      have hgs := grow_setCell hg i (.int .u8 0)
      generalize (colK y l i)[i]'_ = d at *
      generalize colK y l i = L at *
      have HS := Lib.hid (And.intro hst hgs)
      clear hst hgs hK hg
      go_wp2_with fail
      go_loopw [23] (fun vk wk => ∃ k : Nat, k ≤ 4 ∧ vk = .int .i64 k ∧ BB wk B (L.set i (colF y l i k)) ∧ x.grownBy wk (some B)) (fun vk _ => 4 - (intOf vk).toNat)
      case atStart => exact ⟨0, by omega, rfl, HS.out.1, HS.out.2⟩
      case round =>
        clear HS fi ci
        obtain ⟨k, hk, rfl, hK, hg⟩ := hrel
        by_cases hlk : k < 4
        · obtain ⟨m, hm⟩ : ∃ m : Nat, m = (k + 4 - i % 4) % 4 := ⟨_, rfl⟩
          obtain ⟨n, hn⟩ : ∃ n : Nat, n = 4 * (i / 4) + k := ⟨_, rfl⟩
          have hml : m < y.length := by have := HY.out; omega
          have hnl : n < l.length := by have := HL.out; omega
          have q1 : ((k : Int) - (i : Int) % 4 + 4) % 4 = (m : Int) := by omega
          have q1t : Int.tmod ((k : Int) - (i : Int) % 4 + 4) 4 = (m : Int) := by rw [Int.tmod_eq_emod_of_nonneg (by omega)]; exact q1
          have q1a : IntKind.i64.wrap ((k : Int) - (i : Int) % 4) = (k : Int) - (i : Int) % 4 := IntWalk.i64_in _ (by omega)
          have q1b : IntKind.i64.wrap ((k : Int) - (i : Int) % 4 + 4) = (k : Int) - (i : Int) % 4 + 4 := IntWalk.i64_in _ (by omega)
          have q2a : IntKind.i64.wrap (4 * ((i : Int) / 4)) = 4 * ((i : Int) / 4) := IntWalk.i64_in _ (by omega)
          have q2b : IntKind.i64.wrap (4 * ((i : Int) / 4) + (k : Int)) = 4 * ((i : Int) / 4) + (k : Int) := IntWalk.i64_in _ (by omega)
          have q1n : (0 : Int) ≤ (k : Int) - (i : Int) % 4 + 4 := by omega
          have q2 : 4 * ((i : Int) / 4) + (k : Int) = (n : Int) := by omega
          have q2c : IntKind.i64.wrap (n : Int) = (n : Int) := IntWalk.i64_in _ (by omega)
          have q1c : IntKind.i64.wrap (m : Int) = (m : Int) := IntWalk.i64_in _ (by omega)
          have i0 : (0 : Int) ≤ (i : Int) := by omega
          have i1 : (i : Int) < 16 := by omega
          have m0 : (0 : Int) ≤ (m : Int) := by omega
          have m1 : (m : Int) < 4 := by omega
          have n0 : (0 : Int) ≤ (n : Int) := by omega
          have n1 : (n : Int) < 16 := by omega
          have hCr : BB wr C l := Blk.kept HC.out hg (by simp; omega)
          have hYr : YB wr Y y := Blk.kept HYY.out hg (by simp; omega)
          have cm := hYr.cell m hml
          have cn := hCr.cell n hnl
          have ci := hK.cell i (by rw [List.length_set]; omega)
          rw [List.getElem_set_self] at ci
          have fi := Blk.frozen hK i
          have hnext : colF y l i (k + 1) = colF y l i k ^^^ gmulB y[m] l[n] := by
            rw [colF, ← hm, ← hn, List.getD_eq_getElem?_getD, List.getElem?_eq_getElem hml, List.getD_eq_getElem?_getD, List.getElem?_eq_getElem hnl]
            rfl
          have hst := hK.set i (colF y l i (k + 1))
          rw [List.set_set] at hst
          have hgs := grow_setCell hg i (.int .u8 ((colF y l i (k + 1)).toNat : Int))
          have HS := Lib.hid (And.intro hst hgs)
          have A1 : ∀ W : World, Calls Tryz.prog 111 #[.int .u8 (y[m].toNat : Nat), .int .u8 (l[n].toNat : Nat)] W fun e w' => e = .returned (.int .u8 ((gmulB y[m] l[n]).toNat : Nat)) ∧ W = w' := fun W => by
            rw [toNat_gmulB]
            exact galois_mul _ _ W (u8_lt _) (u8_lt _)
          have xb := xor_byte (colF y l i k) (gmulB y[m] l[n])
          rw [← hnext] at xb
          clear hm hn hst hgs hK hg hCr hYr hnext
          generalize gmulB y[m] l[n] = g at *
          generalize y[m] = cy at *
          generalize l[n] = cl at *
          obtain ⟨cb, hcb⟩ : ∃ c, c = colF y l i (k + 1) := ⟨_, rfl⟩
          rw [← hcb] at xb HS
          have HCB := Lib.hid hcb
          clear hcb
          generalize colF y l i k = ca at *
          clear hml hnl
          go_wp2_with fail
          go_still_tail 22, (by kernel_rfl)
          still_call ((A1 _).mono (fun e w' h => ⟨h.1, h.2.symm⟩))
          repeat still_step
          refine wpStill_nil ?_
          change wpList _ _ _ _ _ wr.drew
          go_wp2_with fail
          go_roundw
          case rel => exact ⟨k + 1, by omega, by go_num, by rw [← HCB.out]; exact HS.out.1, grow_drew HS.out.2⟩
          case measure => simp [intOf]; omega
        · obtain rfl : k = 4 := by omega
          rw [hs.out] at hK
          go_wp2_with fail
          go_roundw
          case rel => exact ⟨i + 1, by omega, by go_num, hK, hg⟩
          case measure => simp [intOf]; omega
    · obtain rfl : i = 16 := by omega
      have e : colK y l 16 = colsL y l := by
        unfold colK
        rw [List.drop_of_length_le (by have := HL.out; omega), List.append_nil, List.take_of_length_le (by rw [colsL_length]; omega)]
      rw [e] at hK
      go_wp2_with fail
      go_end0
      exact ⟨rfl, hK, grow_trans hg0 hg⟩

end Go.Proofs.YtffeekfofbcobaaGreat

namespace Go.Proofs.YtffeekfofbcobaaGreat
open Go.RowKit
set_option linter.unusedVariables false

/-- The four columns, the first k of them; the diagonals likewise. -/
def colsK (l : List Nat) : Nat → List Nat
  | 0 => l
  | k + 1 => qset k (4 + k) (8 + k) (12 + k) (colsK l k)
def diagK (l : List Nat) : Nat → List Nat
  | 0 => l
  | k + 1 => qset k (4 + (k + 1) % 4) (8 + (k + 2) % 4) (12 + (k + 3) % 4) (diagK l k)
def roundsK (l : List Nat) : Nat → List Nat
  | 0 => l
  | k + 1 => diagK (colsK (roundsK l k) 4) 4
def stirred (l : List Nat) : List Nat := roundsK l 10

theorem getD_set_small {l : List Nat} (h : Small l) (i n : Nat) (hn : n < 4294967296) : Small (l.set i n) := by
  intro j
  have := h j
  rw [List.getD_eq_getElem?_getD] at this ⊢
  rw [List.getElem?_set]
  by_cases e : i = j
  · subst e
    by_cases q : i < l.length
    · simp [q, hn]
    · simp [q]
  · simp only [e, if_false]
    exact this

theorem qset_small {l : List Nat} (h : Small l) (a b c d : Nat) : Small (qset a b c d l) := by
  have ok : Ok4 (qquarter (l.getD a 0, l.getD b 0, l.getD c 0, l.getD d 0)) := by
    unfold qquarter
    exact qstep_ok _ _ _ (qstep_ok _ _ _ ⟨h a, h b, h c, h d⟩)
  unfold qset
  generalize qquarter (l.getD a 0, l.getD b 0, l.getD c 0, l.getD d 0) = q at *
  obtain ⟨x, y, z, t⟩ := q
  obtain ⟨h1, h2, h3, h4⟩ := ok
  exact getD_set_small (getD_set_small (getD_set_small (getD_set_small h _ _ h1) _ _ h2) _ _ h3) _ _ h4

theorem qset_length (a b c d : Nat) (l : List Nat) : (qset a b c d l).length = l.length := by simp [qset]

theorem colsK_ok {l : List Nat} (h : Small l) (hl : l.length = 16) (k : Nat) : Small (colsK l k) ∧ (colsK l k).length = 16 := by
  induction k with
  | zero => exact ⟨h, hl⟩
  | succ k ih => exact ⟨qset_small ih.1 _ _ _ _, by rw [colsK, qset_length]; exact ih.2⟩

theorem diagK_ok {l : List Nat} (h : Small l) (hl : l.length = 16) (k : Nat) : Small (diagK l k) ∧ (diagK l k).length = 16 := by
  induction k with
  | zero => exact ⟨h, hl⟩
  | succ k ih => exact ⟨qset_small ih.1 _ _ _ _, by rw [diagK, qset_length]; exact ih.2⟩

theorem roundsK_ok {l : List Nat} (h : Small l) (hl : l.length = 16) (k : Nat) : Small (roundsK l k) ∧ (roundsK l k).length = 16 := by
  induction k with
  | zero => exact ⟨h, hl⟩
  | succ k ih =>
    have c := colsK_ok ih.1 ih.2 4
    exact diagK_ok c.1 c.2 4

def zero16 : List Value := List.replicate 16 (.int .u32 0)

theorem info16 : (Tryz.prog.info? 134).map (·.size) = some 16 := by kernel_rfl

theorem wcells_mem (l : List Nat) : ∀ v ∈ l.map wcell, v.oneCell' = true := by
  intro v hv
  obtain ⟨n, _, rfl⟩ := List.mem_map.1 hv
  rfl

theorem wcells_one (l : List Nat) : (l.map wcell).toArray.all (·.oneCell') = true := by
  refine all_oneCell_toArray fun v hv => ?_
  obtain ⟨n, _, rfl⟩ := List.mem_map.1 hv
  rfl

set_option maxRecDepth 20000 in
set_option maxHeartbeats 2000000 in
theorem code_stirred (w : World) (l : List Nat) (hl : l.length = 16) (hx : Small l) :
    Calls Tryz.prog 85 #[A16 l] w fun e w' => e = .returned (A16 (stirred l)) ∧ w.grownBy w' none := by
  have HR := roundsK_ok hx hl
  obtain ⟨B, hBe⟩ : ∃ B, B = w.heap.size := ⟨_, rfl⟩
  obtain ⟨x, hxe⟩ : ∃ x, x = (w.alloc (.cells (l.map wcell).toArray 134)).alloc (.cells zero16.toArray 134) := ⟨_, rfl⟩
  have hBx : WB x B l := by rw [hxe, hBe]; exact obj_alloc (obj_new w _)
  have hB1 : Blk x (B + 1) 134 zero16 := by
    have := Blk.new (w.alloc (.cells (l.map wcell).toArray 134)) 134 zero16
    rw [show (w.alloc (.cells (l.map wcell).toArray 134)).heap.size = B + 1 from by rw [hBe]; simp] at this
    rw [hxe]
    exact this
  have hg0 : w.grownBy x none := by rw [hxe]; exact grow_alloc (grow_alloc (grow_refl w none) _) _
  have hBs : w.heap.size ≤ B := by omega
  have HXE := Lib.hid hxe
  have HBE := Lib.hid hBe
  have HL := Lib.hid hl
  have HZ := Lib.hid hB1
  have HG := Lib.hid hg0
  clear hx hxe hBe hl hB1 hg0
  unfold A16
  go_enter Tryz.func85, Tryz.ntmps85
  go_wp2_with fail
  rw [← HBE.out]
  have hX := HXE.out
  unfold zero16 at hX
  simp only [List.replicate] at hX
  rw [← hX]
  clear hX
  have hu := Tryz.underlying134
  go_loopw [7] (fun vr wr => ∃ r : Nat, r ≤ 10 ∧ vr = .int .i64 r ∧ WB wr B (roundsK l r) ∧ x.grownBy wr (some B)) (fun vr _ => 10 - (intOf vr).toNat)
  case atStart => exact ⟨0, by omega, rfl, hBx, grow_refl _ _⟩
  case round =>
    clear hBx hu
    obtain ⟨r, hr, rfl, hB, hg⟩ := hrel
    by_cases hlt : r < 10
    · have hd : decide ((r : Int) < 10) = true := by simp; omega
      have HRr := Lib.hid (HR r)
      clear HR
      go_wp2_with fail
      go_loopw [9] (fun vk wr => ∃ k : Nat, k ≤ 4 ∧ vk = .int .i64 k ∧ WB wr B (colsK (roundsK l r) k) ∧ x.grownBy wr (some B)) (fun vk _ => 4 - (intOf vk).toNat)
      case atStart => exact ⟨0, by omega, rfl, hB, hg⟩
      case round =>
        clear hB hg
        obtain ⟨k, hk, rfl, hB, hg⟩ := hrel
        by_cases hlk : k < 4
        · have hok := colsK_ok HRr.out.1 HRr.out.2 k
          go_wp2_with fail
          refine (code_stir1 _ B (colsK (roundsK l r) k) k (4 + k) (8 + k) (12 + k) hB hok.2 hok.1 (by omega) (by omega) (by omega) (by omega) (by omega) (by omega) (by omega) (by omega) (by omega) (by omega)).mono ?_
          rintro e w1 ⟨rfl, hB1, hg1⟩
          go_wp2_with fail
          go_roundw
          case rel => exact ⟨k + 1, by omega, by go_num, hB1, grow_trans hg hg1⟩
          case measure => simp [intOf]; omega
        · obtain rfl : k = 4 := by omega
          rw [show Value.int .i64 ((4 : Nat) : Int) = Value.int .i64 4 from rfl]
          have HC := Lib.hid (colsK_ok HRr.out.1 HRr.out.2 4)
          go_wp2_with fail
          go_loopw [22] (fun vk wr => ∃ k : Nat, k ≤ 4 ∧ vk = .int .i64 k ∧ WB wr B (diagK (colsK (roundsK l r) 4) k) ∧ x.grownBy wr (some B)) (fun vk _ => 4 - (intOf vk).toNat)
          case atStart => exact ⟨0, by omega, rfl, hB, hg⟩
          case round =>
            clear hB hg
            obtain ⟨k, hk, rfl, hB, hg⟩ := hrel
            by_cases hlk : k < 4
            · have hok := diagK_ok HC.out.1 HC.out.2 k
              go_wp2_with fail
              refine (code_stir1 _ B (diagK (colsK (roundsK l r) 4) k) k (4 + (k + 1) % 4) (8 + (k + 2) % 4) (12 + (k + 3) % 4) hB hok.2 hok.1 (by omega) (by omega) (by omega) (by omega) (by omega) (by omega) (by omega) (by omega) (by omega) (by omega)).mono ?_
              rintro e w1 ⟨rfl, hB1, hg1⟩
              go_wp2_with fail
              go_roundw
              case rel => exact ⟨k + 1, by omega, by go_num, hB1, grow_trans hg hg1⟩
              case measure => simp [intOf]; omega
            · obtain rfl : k = 4 := by omega
              go_wp2_with fail
              go_roundw
              case rel => exact ⟨r + 1, by omega, by go_num, hB, hg⟩
              case measure => simp [intOf]; omega
    · obtain rfl : r = 10 := by omega
      have hle := (HR 10).2
      clear HR
      obtain ⟨L, hL⟩ : ∃ L, L = roundsK l 10 := ⟨_, rfl⟩
      have HLL := Lib.hid (show Value.agg ((stirred l).map wcell).toArray = .agg (L.map wcell).toArray from by rw [hL]; rfl)
      rw [← hL] at hle hB
      clear hL
      have hB' : Blk wr B 134 ((L).map wcell) := hB
      have hZ := (HZ.out).kept hg (by simp)
      have hi2 : (Tryz.prog.info? 134).map (·.size) = some ((L).map wcell).length := by rw [List.length_map, hle]; exact info16
      have hi3 : (Tryz.prog.info? 134).map (·.size) = some ((L).map wcell).toArray.size := by rw [List.size_toArray]; exact hi2
      have hth : wr.there (B + 1) 0 ((L).map wcell).toArray.size := hZ.there _ (by simp [zero16, hle])
      have HI := Lib.hid hi2
      have HI3 := Lib.hid hi3
      have HT := Lib.hid hth
      have HRg := Lib.hid hB'.range
      clear hi2 hi3 hth hZ
      go_upto_region 15 with (fail)
      refine wp_region_lit ?_
      refine wpList_load_mid rfl 134 _ rfl B 0 rfl ((L).map wcell) _ HRg.out Tryz.underlying134 rfl HI.out ?_
      refine wpList_store_mid rfl 134 _ _ rfl (B + 1) 0 ((L).map wcell).toArray rfl rfl HT.out HI3.out (wcells_one _) ?_
      refine wpList_nil ?_
      have hW := ((HZ.out).kept hg (by simp)).store ((L).map wcell) (by simpa [zero16] using hle)
      have hgW : w.grownBy (wr.setCells (B + 1) 0 ((L).map wcell).toArray.toList) none := grow_setCells_new (grow_trans_new HG.out hg hBs) (B + 1) (by omega) _ _
      go_wp2_with fail
      refine bodyPost_ret (v := .agg ((L).map wcell).toArray) (results_row Tryz.results85 _ _ (B + 1) rfl ((L).map wcell) _ hW Tryz.underlying134 rfl HI.out) rfl ?_
      exact ⟨by rw [HLL.out], hgW⟩

end Go.Proofs.YtffeekfofbcobaaGreat

namespace Go.Proofs.YtffeekfofbcobaaGreat
open Go.RowKit
set_option linter.unusedVariables false

set_option maxRecDepth 100000 in
set_option maxHeartbeats 4000000 in
theorem code_mixboth1 (w : World) (b : Nat) (hash chain key text : List UInt8) (n : Nat) (h : NSt w b 1 hash chain key n) (hc : chain.length ≤ 32) (hh : hash.length ≤ 32) (ht : text.length ≤ 9223372036854774000) :
    Calls Tryz.prog 13 #[.pointer (some ⟨b, 0, none⟩), S text] w (Mixed w b 1 (hashM 1 (hash ++ mk2 1 chain text)) (mk1 1 chain text) (mk3 1 chain text) 0) := by
  have A2 : ∀ W : World, Calls Tryz.prog 18 #[.int .i64 1, S chain, S text, .int .i64 3] W (DerIs (outM 1 (macM 1 chain text) 3) W) := fun W => code_derive W 1 (by decide) chain text 3 (by omega) (by omega) (by omega) (by omega)
  rw [out3] at A2
  have K1 := code_kind1
  obtain ⟨c0, c1, c2, c3, c4⟩ := h.cells
  have H := Lib.hid h
  have A3 := fun (W : World) (hW : NSt W b 1 hash chain key n) => code_mixhash1 W b hash chain key (mk2 1 chain text) n hW hh (by rw [mk2_length]; omega)
  unfold Mixed at *
  generalize hashM 1 (hash ++ mk2 1 chain text) = V0 at *
  generalize mk1 1 chain text = V1 at *
  generalize mk2 1 chain text = V2 at *
  generalize mk3 1 chain text = V3 at *
  rw [suV_1] at c0
  clear c1 c3 c4 h hh ht hc
  unfold S at *
  go_enter Tryz.func13, Tryz.ntmps13
  go_wp2_with fail
  go_region_held3 (fun W => W.cell? ⟨b, 0, none⟩ = some (.iface 57 (.agg #[])) ∧ W.cell? ⟨b, 2, none⟩ = some (.string ⟨chain.toArray⟩)) (first | exact ⟨c0, c2⟩ | exact ⟨d0, d2⟩ | exact ⟨m0, m2⟩) (first
    | (go_at_call 70; (with_reducible refine (K1 _).mono ?_); rintro e x1 ⟨rfl, hg1⟩; have H1 : NSt x1 b 1 hash chain key n := Blk.kept (Blk.drew H.out) hg1 nofun; obtain ⟨d0, d1, d2, d3, d4⟩ := H1.cells; unfold S at d1 d2 d3; rw [suV_1] at d0)
    | (go_at_call 18; (with_reducible refine (A2 _).mono ?_); rintro e x2 ⟨v, rfl, hr, hg2⟩; have H2 : NSt x2 b 1 hash chain key n := Blk.kept H1 hg2 nofun; obtain ⟨m0, m1, m2, m3, m4⟩ := H2.cells; unfold S at m1 m2 m3; rw [suV_1] at m0))
  all_goals
    obtain ⟨g, cap, hv, hb1, hb2, hb3, hb4, hcl⟩ := srow_cells hr (by simp)
    have hne := srow_other hr H2 (by decide)
    subst hv
    have hgb : g ≠ b := fun e => hne (by rw [e]; rfl)
    have l0 := hcl 0 (by simp)
    have l1 := hcl 1 (by simp)
    have l2 := hcl 2 (by simp)
    have HGG := Lib.hid (grow_trans (grow_trans (grow_drew (grow_refl w none)) hg1) hg2)
    have A4 := A3 x2 H2
    clear hr hcl hne hg1 hg2 H2 m0 m1 m2 m3 m4 K1 A2 A3
    unfold S at *
    go_wp2_with fail
    (with_reducible refine A4.mono ?_)
    rintro e x3 ⟨rfl, hs3, hg3⟩
    have L0 := hg3.cell (a := ⟨g, 0, none⟩) l0 (by simp; omega)
    have L2 := hg3.cell (a := ⟨g, 2, none⟩) l2 (by simp; omega)
    obtain ⟨e0, e1, e2, e3, e4⟩ := hs3.cells
    have f2 := Blk.frozen hs3 2
    have f3 := Blk.frozen hs3 3
    have f4 := Blk.frozen hs3 4
    have HH2 := Lib.hid hs3
    have HG3 := Lib.hid (grow_trans (grow_none (r := some b) HGG.out) hg3)
    clear hs3 hg3 A4 e0 e1 l0 l1 l2
    unfold S at *
    go_wp2_with fail
    go_region
  all_goals
    have hs5 := Blk.drew (Blk.set (Blk.set (Blk.set HH2.out 2 (.string ⟨V1.toArray⟩)) 3 (.string ⟨V3.toArray⟩)) 4 (.int .u64 0))
    have HS5 := Lib.hid hs5
    have HG5 := Lib.hid (grow_drew (grow_setCell (grow_setCell (grow_setCell HG3.out 2 (.string ⟨V1.toArray⟩)) 3 (.string ⟨V3.toArray⟩)) 4 (.int .u64 0)))
    clear hs5
    go_wp2_with fail
    go_end0
    exact ⟨rfl, HS5.out, HG5.out⟩

set_option maxRecDepth 100000 in
set_option maxHeartbeats 4000000 in
theorem code_nsplit1 (w : World) (b : Nat) (hash chain key : List UInt8) (n : Nat) (h : NSt w b 1 hash chain key n) (hc : chain.length ≤ 32) :
    Calls Tryz.prog 14 #[.pointer (some ⟨b, 0, none⟩)] w (Grown (.tuple #[S (mk1 1 chain []), S (mk2 1 chain [])]) w) := by
  have A2 : ∀ W : World, Calls Tryz.prog 18 #[.int .i64 1, S chain, S [], .int .i64 2] W (DerIs (outM 1 (macM 1 chain []) 2) W) := fun W => code_derive W 1 (by decide) chain [] 2 (by omega) (by omega) (by omega) (by simp)
  rw [out2] at A2
  have K1 := code_kind1
  obtain ⟨c0, c1, c2, c3, c4⟩ := h.cells
  have H := Lib.hid h
  generalize mk1 1 chain [] = V1 at *
  generalize mk2 1 chain [] = V2 at *
  rw [suV_1] at c0
  clear c1 c3 c4 h hc
  unfold S at *
  go_enter Tryz.func14, Tryz.ntmps14
  go_wp2_with fail
  go_region_held3 (fun W => W.cell? ⟨b, 0, none⟩ = some (.iface 57 (.agg #[])) ∧ W.cell? ⟨b, 2, none⟩ = some (.string ⟨chain.toArray⟩)) (first | exact ⟨c0, c2⟩ | exact ⟨d0, d2⟩ | exact ⟨m0, m2⟩) (first
    | (go_at_call 70; (with_reducible refine (K1 _).mono ?_); rintro e x1 ⟨rfl, hg1⟩; have H1 : NSt x1 b 1 hash chain key n := Blk.kept (Blk.drew H.out) hg1 nofun; obtain ⟨d0, d1, d2, d3, d4⟩ := H1.cells; unfold S at d1 d2 d3; rw [suV_1] at d0)
    | (go_at_call 18; (with_reducible refine (A2 _).mono ?_); rintro e x2 ⟨v, rfl, hr, hg2⟩; have H2 : NSt x2 b 1 hash chain key n := Blk.kept H1 hg2 nofun; obtain ⟨m0, m1, m2, m3, m4⟩ := H2.cells; unfold S at m1 m2 m3; rw [suV_1] at m0))
  all_goals
    obtain ⟨g, cap, hv, hb1, hb2, hb3, hb4, hcl⟩ := srow_cells hr (by simp)
    subst hv
    have l0 := hcl 0 (by simp)
    have l1 := hcl 1 (by simp)
    have HGG := Lib.hid (grow_trans (grow_trans (grow_drew (grow_refl w none)) hg1) hg2)
    clear hr hcl hg1 hg2 H2 m0 m1 m2 m3 m4 K1 A2
    unfold S at *
    go_wp2_with fail
    go_region
  all_goals
    go_wp2_with fail
    go_ret2
    exact ⟨rfl, grow_drew HGG.out⟩

set_option maxRecDepth 100000 in
set_option maxHeartbeats 4000000 in
theorem code_mixboth2 (w : World) (b : Nat) (hash chain key text : List UInt8) (n : Nat) (h : NSt w b 2 hash chain key n) (hc : chain.length ≤ 32) (hh : hash.length ≤ 32) (ht : text.length ≤ 9223372036854774000) :
    Calls Tryz.prog 13 #[.pointer (some ⟨b, 0, none⟩), S text] w (Mixed w b 2 (hashM 2 (hash ++ mk2 2 chain text)) (mk1 2 chain text) (mk3 2 chain text) 0) := by
  have A2 : ∀ W : World, Calls Tryz.prog 18 #[.int .i64 2, S chain, S text, .int .i64 3] W (DerIs (outM 2 (macM 2 chain text) 3) W) := fun W => code_derive W 2 (by decide) chain text 3 (by omega) (by omega) (by omega) (by omega)
  rw [out3] at A2
  have K1 := code_kind2
  obtain ⟨c0, c1, c2, c3, c4⟩ := h.cells
  have H := Lib.hid h
  have A3 := fun (W : World) (hW : NSt W b 2 hash chain key n) => code_mixhash2 W b hash chain key (mk2 2 chain text) n hW hh (by rw [mk2_length]; omega)
  unfold Mixed at *
  generalize hashM 2 (hash ++ mk2 2 chain text) = V0 at *
  generalize mk1 2 chain text = V1 at *
  generalize mk2 2 chain text = V2 at *
  generalize mk3 2 chain text = V3 at *
  rw [suV_2] at c0
  clear c1 c3 c4 h hh ht hc
  unfold S at *
  go_enter Tryz.func13, Tryz.ntmps13
  go_wp2_with fail
  go_region_held3 (fun W => W.cell? ⟨b, 0, none⟩ = some (.iface 58 (.agg #[])) ∧ W.cell? ⟨b, 2, none⟩ = some (.string ⟨chain.toArray⟩)) (first | exact ⟨c0, c2⟩ | exact ⟨d0, d2⟩ | exact ⟨m0, m2⟩) (first
    | (go_at_call 94; (with_reducible refine (K1 _).mono ?_); rintro e x1 ⟨rfl, hg1⟩; have H1 : NSt x1 b 2 hash chain key n := Blk.kept (Blk.drew H.out) hg1 nofun; obtain ⟨d0, d1, d2, d3, d4⟩ := H1.cells; unfold S at d1 d2 d3; rw [suV_2] at d0)
    | (go_at_call 18; (with_reducible refine (A2 _).mono ?_); rintro e x2 ⟨v, rfl, hr, hg2⟩; have H2 : NSt x2 b 2 hash chain key n := Blk.kept H1 hg2 nofun; obtain ⟨m0, m1, m2, m3, m4⟩ := H2.cells; unfold S at m1 m2 m3; rw [suV_2] at m0))
  all_goals
    obtain ⟨g, cap, hv, hb1, hb2, hb3, hb4, hcl⟩ := srow_cells hr (by simp)
    have hne := srow_other hr H2 (by decide)
    subst hv
    have hgb : g ≠ b := fun e => hne (by rw [e]; rfl)
    have l0 := hcl 0 (by simp)
    have l1 := hcl 1 (by simp)
    have l2 := hcl 2 (by simp)
    have HGG := Lib.hid (grow_trans (grow_trans (grow_drew (grow_refl w none)) hg1) hg2)
    have A4 := A3 x2 H2
    clear hr hcl hne hg1 hg2 H2 m0 m1 m2 m3 m4 K1 A2 A3
    unfold S at *
    go_wp2_with fail
    (with_reducible refine A4.mono ?_)
    rintro e x3 ⟨rfl, hs3, hg3⟩
    have L0 := hg3.cell (a := ⟨g, 0, none⟩) l0 (by simp; omega)
    have L2 := hg3.cell (a := ⟨g, 2, none⟩) l2 (by simp; omega)
    obtain ⟨e0, e1, e2, e3, e4⟩ := hs3.cells
    have f2 := Blk.frozen hs3 2
    have f3 := Blk.frozen hs3 3
    have f4 := Blk.frozen hs3 4
    have HH2 := Lib.hid hs3
    have HG3 := Lib.hid (grow_trans (grow_none (r := some b) HGG.out) hg3)
    clear hs3 hg3 A4 e0 e1 l0 l1 l2
    unfold S at *
    go_wp2_with fail
    go_region
  all_goals
    have hs5 := Blk.drew (Blk.set (Blk.set (Blk.set HH2.out 2 (.string ⟨V1.toArray⟩)) 3 (.string ⟨V3.toArray⟩)) 4 (.int .u64 0))
    have HS5 := Lib.hid hs5
    have HG5 := Lib.hid (grow_drew (grow_setCell (grow_setCell (grow_setCell HG3.out 2 (.string ⟨V1.toArray⟩)) 3 (.string ⟨V3.toArray⟩)) 4 (.int .u64 0)))
    clear hs5
    go_wp2_with fail
    go_end0
    exact ⟨rfl, HS5.out, HG5.out⟩

set_option maxRecDepth 100000 in
set_option maxHeartbeats 4000000 in
theorem code_nsplit2 (w : World) (b : Nat) (hash chain key : List UInt8) (n : Nat) (h : NSt w b 2 hash chain key n) (hc : chain.length ≤ 32) :
    Calls Tryz.prog 14 #[.pointer (some ⟨b, 0, none⟩)] w (Grown (.tuple #[S (mk1 2 chain []), S (mk2 2 chain [])]) w) := by
  have A2 : ∀ W : World, Calls Tryz.prog 18 #[.int .i64 2, S chain, S [], .int .i64 2] W (DerIs (outM 2 (macM 2 chain []) 2) W) := fun W => code_derive W 2 (by decide) chain [] 2 (by omega) (by omega) (by omega) (by simp)
  rw [out2] at A2
  have K1 := code_kind2
  obtain ⟨c0, c1, c2, c3, c4⟩ := h.cells
  have H := Lib.hid h
  generalize mk1 2 chain [] = V1 at *
  generalize mk2 2 chain [] = V2 at *
  rw [suV_2] at c0
  clear c1 c3 c4 h hc
  unfold S at *
  go_enter Tryz.func14, Tryz.ntmps14
  go_wp2_with fail
  go_region_held3 (fun W => W.cell? ⟨b, 0, none⟩ = some (.iface 58 (.agg #[])) ∧ W.cell? ⟨b, 2, none⟩ = some (.string ⟨chain.toArray⟩)) (first | exact ⟨c0, c2⟩ | exact ⟨d0, d2⟩ | exact ⟨m0, m2⟩) (first
    | (go_at_call 94; (with_reducible refine (K1 _).mono ?_); rintro e x1 ⟨rfl, hg1⟩; have H1 : NSt x1 b 2 hash chain key n := Blk.kept (Blk.drew H.out) hg1 nofun; obtain ⟨d0, d1, d2, d3, d4⟩ := H1.cells; unfold S at d1 d2 d3; rw [suV_2] at d0)
    | (go_at_call 18; (with_reducible refine (A2 _).mono ?_); rintro e x2 ⟨v, rfl, hr, hg2⟩; have H2 : NSt x2 b 2 hash chain key n := Blk.kept H1 hg2 nofun; obtain ⟨m0, m1, m2, m3, m4⟩ := H2.cells; unfold S at m1 m2 m3; rw [suV_2] at m0))
  all_goals
    obtain ⟨g, cap, hv, hb1, hb2, hb3, hb4, hcl⟩ := srow_cells hr (by simp)
    subst hv
    have l0 := hcl 0 (by simp)
    have l1 := hcl 1 (by simp)
    have HGG := Lib.hid (grow_trans (grow_trans (grow_drew (grow_refl w none)) hg1) hg2)
    clear hr hcl hg1 hg2 H2 m0 m1 m2 m3 m4 K1 A2
    unfold S at *
    go_wp2_with fail
    go_region
  all_goals
    go_wp2_with fail
    go_ret2
    exact ⟨rfl, grow_drew HGG.out⟩

end Go.Proofs.YtffeekfofbcobaaGreat

namespace Go.Proofs.YtffeekfofbcobaaGreat
open Go.RowKit
set_option linter.unusedVariables false

/-- 'copy(b[:], text)': as many bytes as both have. -/
theorem run_copy_min {P : Program} (w : World) (dT sT ty elem : TypeId) (b o dLen dCap : Nat) (l : List UInt8)
    (hu : P.underlying dT = some (.slice elem)) (hz : ∀ w, (Go.sizeOf elem).run P w = .ok 1 w)
    (hc : ∀ j, j < (l.take dLen).length → (w.cell? ⟨b, o + j, none⟩).isSome = true) (hf : ∀ j, j < (l.take dLen).length → w.frozen? ⟨b, o + j, none⟩ = false) :
    (Builtin.copy_ #[dT, sT] ty #[.slice (some ⟨b, o, none⟩) dLen dCap, .string ⟨l.toArray⟩]).run P w = .ok (goInt (Nat.min l.length dLen : Nat)) (w.setCells b o ((l.take dLen).map bcell)) := by
  have hst := run_storeCells_cells (P := P) b o ((l.take dLen).map bcell) 0 w (by rw [List.length_map]; simpa using hc) (by rw [List.length_map]; simpa using hf) (by
    intro v hv
    obtain ⟨x, _, rfl⟩ := List.mem_map.1 hv
    rfl)
  simp only [Nat.add_zero] at hst
  have e : (l.map fun x => Value.int IntKind.u8 (x.toNat : Int)).take (Nat.min l.length dLen) = (l.take dLen).map bcell := by
    rw [← List.map_take]
    show (l.take (min l.length dLen)).map bcell = _
    rw [Nat.min_comm, ← List.take_take, List.take_length]
  simp [Builtin.copy_, run_underlying hu, Builtin.lenOf, Builtin.firstCells, hz]
  rw [show (ByteArray.mk l.toArray).size = l.length from by simp [ByteArray.size], e, hst]
  simp only [Result.andThen_ok, ← List.map_take]

/-- All blocks of a text. -/
def ghF (h : Nat) : Nat → Nat → List UInt8 → Nat
  | 0, y, _ => y
  | f + 1, y, t => if t = [] then y else ghF h f (hmul (y ^^^ bigN (sizedL t 16)) h) (t.drop 16)
def ghS (h y : Nat) (t : List UInt8) : Nat := ghF h t.length y t

theorem ghF_lt {h : Nat} (hh : h < 2 ^ 128) : ∀ (f y : Nat) (t : List UInt8), y < 2 ^ 128 → ghF h f y t < 2 ^ 128
  | 0, y, t, hy => hy
  | f + 1, y, t, hy => by
    rw [ghF]
    split
    · exact hy
    · exact ghF_lt hh f _ _ (hmul_lt _ hh)
theorem ghS_lt {h y : Nat} (hh : h < 2 ^ 128) (hy : y < 2 ^ 128) (t : List UInt8) : ghS h y t < 2 ^ 128 := ghF_lt hh _ _ _ hy

def zero16b : List Value := List.replicate 16 (.int .u8 0)
theorem infoB : (Tryz.prog.info? 92).map (·.size) = some 16 := by kernel_rfl
theorem u8_infoG : (Tryz.prog.info? 5).map (·.size) = some 1 := by kernel_rfl
theorem u8_sizeG (w : World) : (Go.sizeOf 5).run Tryz.prog w = .ok 1 w := by
  have h := u8_infoG
  cases hq : Tryz.prog.info? 5 with
  | none => rw [hq] at h; simp at h
  | some i =>
    rw [hq] at h
    have hi : i.size = 1 := by simpa using h
    simp [sizeOf, typeInfo, hq, hi]

/-- A text copied into sixteen bytes 0. -/
theorem copied {w : World} {B : Nat} {t : TypeId} (h : Blk w B t zero16b) (l : List UInt8) : Blk (w.setCells B 0 ((l.take 16).map bcell)) B t ((sizedL l 16).map bcell) := by
  have hl : (l.take 16).length ≤ 16 := List.length_take_le _ _
  rcases setCells_obj B ((l.take 16).map bcell) 0 w zero16b t h with h1 | h1
  · have e : ((zero16b.take 0 ++ (l.take 16).map bcell ++ zero16b.drop (0 + ((l.take 16).map bcell).length)).take zero16b.length) = (sizedL l 16).map bcell := by
      unfold sizedL zerosL zero16b
      rw [List.take_zero, List.nil_append, Nat.zero_add, List.length_map, List.length_replicate, List.drop_replicate, List.take_of_length_le (by rw [List.length_append, List.length_map, List.length_replicate]; omega), List.map_append]
      congr 1
      rw [List.map_replicate, List.length_take]
      congr 1
      omega
    rw [← e]
    exact h1
  · rw [List.length_map] at h1
    simp [zero16b] at h1
    omega

theorem cut16 (U : List UInt8) : (ByteArray.mk U.toArray).extract (min 16 (U.length : Int)).toNat U.length = ⟨(U.drop 16).toArray⟩ := by
  rw [rule_ext]
  congr 2
  by_cases h : 16 ≤ U.length
  · rw [show (min 16 (U.length : Int)).toNat = 16 from by omega]
    exact List.take_of_length_le (by simp)
  · rw [show (min 16 (U.length : Int)).toNat = U.length from by omega, List.drop_of_length_le (by omega), List.drop_of_length_le (by omega), List.take_nil]

attribute [local go_sem ↓] Go.wp_at_zero Go.wp_at_succ

set_option maxRecDepth 20000 in
set_option maxRecDepth 100000 in
set_option maxHeartbeats 2000000 in
theorem code_gtake (w : World) (Y Hb y : Nat) (h text : List UInt8) (hY : Blk w Y 169 (g2 y)) (hH : w.cell? ⟨Hb, 0, none⟩ = some (S h)) (hne : Hb ≠ Y) (hy : y < 2 ^ 128) (hh : h.length = 16) (hl : text.length ≤ 140737488355328) :
    Calls Tryz.prog 112 #[S text, .pointer (some ⟨Y, 0, none⟩), .pointer (some ⟨Hb, 0, none⟩)] w fun e w' => e = .returned (.tuple #[]) ∧ Blk w' Y 169 (g2 (ghS (bigN h) y text)) ∧ w.grownBy w' (some Y) := by
  have hHl : Hb < w.heap.size := World.block_lt_of_cell? _ _ hH
  have hYl := hY.lt
  have A3 : ∀ W : World, Calls Tryz.prog 114 #[S h] W (Grown (G2 (bigN h)) W) := fun W => code_hread W h hh
  have HH := Lib.hid hh
  have HHC := Lib.hid hH
  have HY := Lib.hid hY
  have hne2 : some (⟨Hb, 0, none⟩ : Addr).block ≠ some Y := by simpa using hne
  clear hh hH hY hne
  unfold S
  go_enter Tryz.func112, Tryz.ntmps112
  go_wp2_with fail
  go_loopw [0, 4] (fun vt v4 wr => ∃ (U : List UInt8) (f z : Nat), vt = .string ⟨U.toArray⟩ ∧ U.length ≤ f ∧ U.length ≤ 140737488355328 ∧ z < 2 ^ 128 ∧ Hid (ghF (bigN h) f z U = ghS (bigN h) y text) ∧ Hid (Blk wr Y 169 (g2 z)) ∧ Hid (w.grownBy wr (some Y))) (fun vt _ _ => match vt with | .string b => b.size | _ => 0)
  case atStart => exact ⟨text, text.length, y, rfl, Nat.le_refl _, hl, hy, Lib.hid rfl, HY, Lib.hid (grow_refl _ _)⟩
  case round =>
    clear HY hy hl
    obtain ⟨U, f, z, rfl, hUf, hUl, hz, hE, hb, hg⟩ := hrel
    by_cases hU : U = []
    · subst hU
      have hfin : z = ghS (bigN h) y text := by
        rw [← hE.out]
        cases f <;> simp [ghF]
      have HF := Lib.hid hfin
      clear hfin
      go_wp2_with fail
      go_end0
      exact ⟨rfl, by rw [← HF.out]; exact hb.out, hg.out⟩
    · have q1 : (!U.isEmpty) = true := by simpa using hU
      have q2 : U.isEmpty = false := by simpa using hU
      obtain ⟨f, rfl⟩ : ∃ f', f = f' + 1 := ⟨f - 1, by have := List.length_pos_iff.2 hU; omega⟩
      have hU1 := List.length_pos_iff.2 hU
      have hnx : Hid (ghF (bigN h) f (hmul (z ^^^ bigN (sizedL U 16)) (bigN h)) (U.drop 16) = ghS (bigN h) y text) := Lib.hid (by
        rw [← hE.out, ghF, if_neg hU])
      have hHr := hg.out.cell (a := ⟨Hb, 0, none⟩) HHC.out hne2
      clear hU
      have hz16 : Blk (wr.alloc (.cells #[Value.int IntKind.u8 0, Value.int IntKind.u8 0, Value.int IntKind.u8 0, Value.int IntKind.u8 0, Value.int IntKind.u8 0, Value.int IntKind.u8 0, Value.int IntKind.u8 0, Value.int IntKind.u8 0, Value.int IntKind.u8 0, Value.int IntKind.u8 0, Value.int IntKind.u8 0, Value.int IntKind.u8 0, Value.int IntKind.u8 0, Value.int IntKind.u8 0, Value.int IntKind.u8 0, Value.int IntKind.u8 0] 92)) wr.heap.size 92 zero16b := Blk.new wr _ zero16b
      have hcp := run_copy_min (P := Tryz.prog) (wr.alloc (.cells #[Value.int IntKind.u8 0, Value.int IntKind.u8 0, Value.int IntKind.u8 0, Value.int IntKind.u8 0, Value.int IntKind.u8 0, Value.int IntKind.u8 0, Value.int IntKind.u8 0, Value.int IntKind.u8 0, Value.int IntKind.u8 0, Value.int IntKind.u8 0, Value.int IntKind.u8 0, Value.int IntKind.u8 0, Value.int IntKind.u8 0, Value.int IntKind.u8 0, Value.int IntKind.u8 0, Value.int IntKind.u8 0] 92)) 46 9 3 5 wr.heap.size 0 16 16 U Tryz.underlying46 u8_sizeG
        (fun j hj => by rw [Nat.zero_add, hz16.cell j]; simp [zero16b]; rw [List.length_take] at hj; omega) (fun j hj => by rw [Nat.zero_add]; exact hz16.frozen j)
      obtain ⟨C, hC⟩ : ∃ C, C = wr.heap.size := ⟨_, rfl⟩
      have hCb : Blk ((wr.alloc (.cells #[Value.int IntKind.u8 0, Value.int IntKind.u8 0, Value.int IntKind.u8 0, Value.int IntKind.u8 0, Value.int IntKind.u8 0, Value.int IntKind.u8 0, Value.int IntKind.u8 0, Value.int IntKind.u8 0, Value.int IntKind.u8 0, Value.int IntKind.u8 0, Value.int IntKind.u8 0, Value.int IntKind.u8 0, Value.int IntKind.u8 0, Value.int IntKind.u8 0, Value.int IntKind.u8 0, Value.int IntKind.u8 0] 92)).setCells wr.heap.size 0 ((U.take 16).map bcell)) wr.heap.size 92 ((sizedL U 16).map bcell) := copied hz16 U
      have hgC : wr.grownBy ((wr.alloc (.cells #[Value.int IntKind.u8 0, Value.int IntKind.u8 0, Value.int IntKind.u8 0, Value.int IntKind.u8 0, Value.int IntKind.u8 0, Value.int IntKind.u8 0, Value.int IntKind.u8 0, Value.int IntKind.u8 0, Value.int IntKind.u8 0, Value.int IntKind.u8 0, Value.int IntKind.u8 0, Value.int IntKind.u8 0, Value.int IntKind.u8 0, Value.int IntKind.u8 0, Value.int IntKind.u8 0, Value.int IntKind.u8 0] 92)).setCells wr.heap.size 0 ((U.take 16).map bcell)) none := grow_setCells_new (grow_alloc (grow_refl wr none) _) _ (Nat.le_refl _) _ _
      go_upto_region 4 with (fail)
      clear hcp hz16
      rw [← hC, List.map_take] at hCb hgC
      rw [← hC]
      generalize (wr.alloc (.cells #[Value.int IntKind.u8 0, Value.int IntKind.u8 0, Value.int IntKind.u8 0, Value.int IntKind.u8 0, Value.int IntKind.u8 0, Value.int IntKind.u8 0, Value.int IntKind.u8 0, Value.int IntKind.u8 0, Value.int IntKind.u8 0, Value.int IntKind.u8 0, Value.int IntKind.u8 0, Value.int IntKind.u8 0, Value.int IntKind.u8 0, Value.int IntKind.u8 0, Value.int IntKind.u8 0, Value.int IntKind.u8 0] 92)).setCells C 0 ((U.map bcell).take 16) = x at *
      have G0 : w.grownBy x.drew (some Y) := grow_drew (grow_trans hg.out (grow_none hgC))
      have S00 : Blk x Y 169 (g2 z) := Blk.kept hb.out hgC nofun
      have S0 : Blk x.drew Y 169 (g2 z) := S00
      obtain ⟨⟨o0, o1⟩, of0, of1⟩ := blk2 S00
      have oh := hgC.cell (a := ⟨Hb, 0, none⟩) hHr nofun
      have lz := sizedL_length U 16
      have hcv : ∀ W : World, W.heap = x.heap → (convert 46 9 (.slice (some ⟨C, 0, none⟩) 16 16)).run Tryz.prog W = .ok (S (sizedL U 16)) W := fun W hW => by
        have hBy : Bys W C (sizedL U 16) := fun i hi => ⟨by
          unfold World.cell?
          rw [hW]
          have := hCb.cell i
          unfold World.cell? at this
          rw [this]
          simp [bcell, hi], by
          unfold World.frozen?
          rw [hW]
          exact hCb.frozen i⟩
        have := conv_bys hBy 16
        rw [lz] at this
        exact this
      have hcv0 := hcv x.drew rfl
      have A1 : ∀ W : World, Calls Tryz.prog 114 #[S (sizedL U 16)] W (Grown (G2 (bigN (sizedL U 16))) W) := fun W => code_hread W _ lz
      have lb := blk_lt (sizedL U 16) lz
      have A2 : ∀ W : World, Calls Tryz.prog 113 #[G2 z, G2 (bigN (sizedL U 16))] W (Grown (G2 (z ^^^ bigN (sizedL U 16))) W) := fun W => code_hplus W _ _ hz lb
      have A4 : ∀ W : World, Calls Tryz.prog 115 #[G2 (z ^^^ bigN (sizedL U 16)), G2 (bigN h)] W (Grown (G2 (hmul (z ^^^ bigN (sizedL U 16)) (bigN h))) W) := fun W => code_htimes W _ _ (hxor_lt hz lb) (blk_lt h HH.out)
      have lm := hmul_lt (z ^^^ bigN (sizedL U 16)) (blk_lt h HH.out)
      have LZ := Lib.hid lm
      have HE2 := Lib.hid hE.out
      generalize sizedL U 16 = sz at *
      clear hcv hCb hgC hb hg hE hHr lb lz S00 hC
      have HS := fun (W : World) (hW : Blk W Y 169 (g2 z)) => Lib.hid (blk2_set hW (.int .u64 ((hi64 (hmul (z ^^^ bigN sz) (bigN h)) : Nat) : Int)) (.int .u64 ((lo64 (hmul (z ^^^ bigN sz) (bigN h)) : Nat) : Int)))
      have HG := fun (W : World) (hW : w.grownBy W (some Y)) => Lib.hid (grow_setCell (grow_setCell hW 0 (.int .u64 ((hi64 (hmul (z ^^^ bigN sz) (bigN h)) : Nat) : Int))) 1 (.int .u64 ((lo64 (hmul (z ^^^ bigN sz) (bigN h)) : Nat) : Int)))
      have hdr : List.take (U.length - 16) (List.drop 16 U) = U.drop 16 := List.take_of_length_le (by simp)
      unfold G2 S at *
      generalize hmul (z ^^^ bigN sz) (bigN h) = m at *
      generalize z ^^^ bigN sz = zx at *
      generalize bigN sz = bs at *
      go_region_with
        (first
          | (go_at_call 114; (with_reducible refine (A1 _).mono ?_); rintro e w3 ⟨rfl, hg3⟩; have G3 := grow_trans G0 (grow_none hg3); have S3 := Blk.kept S0 hg3 nofun; obtain ⟨⟨na0, na1⟩, nf0, nf1⟩ := blk2 S3; have nh := hg3.cell (a := ⟨Hb, 0, none⟩) oh nofun)
          | (go_at_call 113; (with_reducible refine (A2 _).mono ?_); rintro e w4 ⟨rfl, hg4⟩; have G4 := grow_trans G3 (grow_none hg4); have S4 := Blk.kept S3 hg4 nofun; have nh4 := hg4.cell (a := ⟨Hb, 0, none⟩) nh nofun)
          | (go_at_call 114; (with_reducible refine (A3 _).mono ?_); rintro e w5 ⟨rfl, hg5⟩; have G5 := grow_trans G4 (grow_none hg5); have S5 := Blk.kept S4 hg5 nofun)
          | (go_at_call 115; (with_reducible refine (A4 _).mono ?_); rintro e w6 ⟨rfl, hg6⟩; have G6 := grow_trans G5 (grow_none hg6); have S6 := Blk.kept S5 hg6 nofun; obtain ⟨⟨nc0, nc1⟩, nf0, nf1⟩ := blk2 S6))
      all_goals
        have kS := HS w6 S6
        have kG := HG w6 G6
        clear A1 A2 A3 A4 HS HG S6 G6 S5 G5 S4 G4 S3 G3 S0 G0 o0 o1 of0 of1 oh
        go_wp2_with fail
        go_roundw
        case rel => exact ⟨U.drop 16, f, m, by rw [cut16], by rw [List.length_drop]; omega, by rw [List.length_drop]; omega, LZ.out, hnx, kS, kG⟩
        case measure => simp [ByteArray.size]; omega

end Go.Proofs.YtffeekfofbcobaaGreat

namespace Go.Proofs.YtffeekfofbcobaaGreat
open Go.RowKit
set_option linter.unusedVariables false

/-- What Sum answers. -/
def hsumL (h l s : List UInt8) : List UInt8 :=
  bigB (ghS (bigN h) (ghS (bigN h) (ghS (bigN h) 0 l) s) (bigB (l.length * 8) 8 ++ bigB (s.length * 8) 8)) 16

theorem hsumL_length (h l s : List UInt8) : (hsumL h l s).length = 16 := bigB_length _ _

set_option maxRecDepth 20000 in
set_option maxRecDepth 100000 in
set_option maxHeartbeats 1000000 in
theorem code_ghsum (w : World) (h l s : List UInt8) (hh : h.length = 16) (hl : l.length ≤ 140737488355328) (hs : s.length ≤ 140737488355328) :
    Calls Tryz.prog 107 #[S h, S l, S s] w fun e w' => e = .returned (.tuple #[S (hsumL h l s), .int .i64 0]) ∧ w.grownBy w' none := by
  have q1 : ((h.length : Int) != 16) = false := by simp; omega
  obtain ⟨B, hB⟩ : ∃ B, B = w.heap.size := ⟨_, rfl⟩
  obtain ⟨x, hx⟩ : ∃ x, x = (w.alloc (.cells #[S h] 9)).alloc (.cells (g2 0).toArray 169) := ⟨_, rfl⟩
  have s1 : (w.alloc (.cells #[S h] 9)).heap.size = B + 1 := by rw [hB]; simp
  have bH : x.cell? ⟨B, 0, none⟩ = some (S h) := by rw [hx, hB, obj_cell (obj_alloc (obj_new w _))]; rfl
  have bY : Blk x (B + 1) 169 (g2 0) := by rw [hx, ← s1]; exact obj_new _ _
  have hgx : w.grownBy x none := by rw [hx]; exact grow_alloc (grow_alloc (grow_refl w none) _) _
  have hBs : w.heap.size ≤ B + 1 := by omega
  obtain ⟨y1, hy1⟩ : ∃ y, y = ghS (bigN h) 0 l := ⟨_, rfl⟩
  obtain ⟨y2, hy2⟩ : ∃ y, y = ghS (bigN h) y1 s := ⟨_, rfl⟩
  obtain ⟨e3, he3⟩ : ∃ e, e = bigB (l.length * 8) 8 ++ bigB (s.length * 8) 8 := ⟨_, rfl⟩
  obtain ⟨y3, hy3⟩ : ∃ y, y = ghS (bigN h) y2 e3 := ⟨_, rfl⟩
  have hn := blk_lt h hh
  have l1 : y1 < 2 ^ 128 := by rw [hy1]; exact ghS_lt hn (by decide) _
  have l2 : y2 < 2 ^ 128 := by rw [hy2]; exact ghS_lt hn l1 _
  have l3 : y3 < 2 ^ 128 := by rw [hy3]; exact ghS_lt hn l2 _
  have hV : hsumL h l s = bigB y3 16 := by rw [hy3, he3, hy2, hy1]; rfl
  rw [hV]
  clear hV
  have T1 : ∀ W : World, Blk W (B + 1) 169 (g2 0) → W.cell? ⟨B, 0, none⟩ = some (S h) → Calls Tryz.prog 112 #[S l, .pointer (some ⟨B + 1, 0, none⟩), .pointer (some ⟨B, 0, none⟩)] W fun e w' => e = .returned (.tuple #[]) ∧ Blk w' (B + 1) 169 (g2 y1) ∧ W.grownBy w' (some (B + 1)) := fun W h1 h2 => by
    have := code_gtake W (B + 1) B 0 h l h1 h2 (by omega) (by decide) hh hl
    rwa [← hy1] at this
  have T2 : ∀ W : World, Blk W (B + 1) 169 (g2 y1) → W.cell? ⟨B, 0, none⟩ = some (S h) → Calls Tryz.prog 112 #[S s, .pointer (some ⟨B + 1, 0, none⟩), .pointer (some ⟨B, 0, none⟩)] W fun e w' => e = .returned (.tuple #[]) ∧ Blk w' (B + 1) 169 (g2 y2) ∧ W.grownBy w' (some (B + 1)) := fun W h1 h2 => by
    have := code_gtake W (B + 1) B y1 h s h1 h2 (by omega) l1 hh hs
    rwa [← hy2] at this
  have T3 : ∀ W : World, Blk W (B + 1) 169 (g2 y2) → W.cell? ⟨B, 0, none⟩ = some (S h) → Calls Tryz.prog 112 #[S e3, .pointer (some ⟨B + 1, 0, none⟩), .pointer (some ⟨B, 0, none⟩)] W fun e w' => e = .returned (.tuple #[]) ∧ Blk w' (B + 1) 169 (g2 y3) ∧ W.grownBy w' (some (B + 1)) := fun W h1 h2 => by
    have := code_gtake W (B + 1) B y2 h e3 h1 h2 (by omega) l2 hh (by rw [he3, List.length_append, bigB_length, bigB_length]; omega)
    rwa [← hy3] at this
  have A4 : ∀ W : World, Calls Tryz.prog 116 #[G2 y3] W (Grown (S (bigB y3 16)) W) := fun W => code_htext W _ l3
  generalize bigB y3 16 = V at *
  obtain ⟨n1, hn1⟩ : ∃ n, n = l.length * 8 := ⟨_, rfl⟩
  obtain ⟨n2, hn2⟩ : ∃ n, n = s.length * 8 := ⟨_, rfl⟩
  have AL1 : ∀ W : World, Calls Tryz.prog 43 #[.slice none 0 0, .int .u64 (n1 : Int), .int .i64 8] W (OwnBytes W W.heap.size (bigB n1 8)) := fun W => by
    have := wire_appendBig W W.heap.size (.slice none 0 0) [] n1 8 (brow_nil _ _) (by omega) (by omega) (by omega) (by simp) (Nat.le_refl _)
    exact this
  have AL2 : ∀ (W : World) (b : Nat) (v : Value), brow W b v (bigB n1 8) → b ≤ W.heap.size → Calls Tryz.prog 43 #[v, .int .u64 (n2 : Int), .int .i64 8] W (OwnBytes W b e3) := fun W b v k1 k2 => by
    have := wire_appendBig W b v (bigB n1 8) n2 8 k1 (by omega) (by omega) (by omega) (by rw [bigB_length]; omega) k2
    rw [show (8 : Int).toNat = 8 from rfl, hn1, hn2, ← he3] at this
    rw [hn2]
    exact this
  have u1 : IntKind.u64.wrap (IntKind.u64.wrap (l.length : Int) * 8) = (n1 : Int) := by rw [IntKind.wrap_u64, IntKind.wrap_u64]; omega
  have u2 : IntKind.u64.wrap (IntKind.u64.wrap (s.length : Int) * 8) = (n2 : Int) := by rw [IntKind.wrap_u64, IntKind.wrap_u64]; omega
  have u3 : (l.length : Int) * 8 = (n1 : Int) := by omega
  have u4 : (s.length : Int) * 8 = (n2 : Int) := by omega
  have HX := Lib.hid hx
  have HB := Lib.hid hB
  have HbH := Lib.hid bH
  have HbY := Lib.hid bY
  have HG := Lib.hid hgx
  clear hx hB s1 bH bY hgx hy1 hy2 hy3 he3 hn1 hn2 hh l1 l2 l3 hn
  unfold S G2 at *
  go_enter Tryz.func107, Tryz.ntmps107
  go_upto_region 5 with (fail)
  rw [← HB.out]
  have hX := HX.out
  unfold g2 at hX
  simp only [show hi64 0 = 0 from rfl, show lo64 0 = 0 from rfl, show ((0 : Nat) : Int) = 0 from rfl] at hX
  rw [← hX]
  clear hX HX
  go_wp2_with fail
  refine (T1 _ HbY.out HbH.out).mono ?_
  rintro e w1 ⟨rfl, hb1, hg1⟩
  have HY1 := Lib.hid hb1
  have HH1 := Lib.hid (hg1.cell (a := ⟨B, 0, none⟩) HbH.out (by simp))
  have HG1 := Lib.hid (grow_trans_new HG.out hg1 hBs)
  clear hb1 hg1 T1 HbY HbH HG
  go_wp2_with fail
  refine (T2 _ HY1.out HH1.out).mono ?_
  rintro e w2 ⟨rfl, hb2, hg2⟩
  have HY2 := Lib.hid hb2
  have HH2 := Lib.hid (hg2.cell (a := ⟨B, 0, none⟩) HH1.out (by simp))
  have HG2 := Lib.hid (grow_trans_new HG1.out hg2 hBs)
  clear hb2 hg2 T2 HY1 HH1 HG1
  go_wp2_with fail
  refine (AL1 _).mono ?_
  rintro e w3 ⟨v3, rfl, hw3, hB3⟩
  go_wp2_with fail
  refine (AL2 _ _ _ hw3 hB3.size).mono ?_
  rintro e w4 ⟨v4, rfl, hw4, hB4⟩
  have hcv := conv_brow hw4
  have hBB := hB3.trans hB4
  have HY4 := Lib.hid (Blk.kept HY2.out (grow_of_below (r := none) hBB) nofun)
  have HH4 := Lib.hid ((hBB.cell (p := ⟨B, 0, none⟩) (by have := HY2.out.lt; show B < _; omega)).trans HH2.out)
  have HG4 := Lib.hid (grow_trans HG2.out (grow_of_below (r := none) hBB))
  clear hw3 hw4 hB3 hB4 hBB AL1 AL2 HY2 HH2 HG2
  unfold S at hcv
  go_wp2_with fail
  refine (T3 _ HY4.out HH4.out).mono ?_
  rintro e w5 ⟨rfl, hb5, hg5⟩
  have HG5 := Lib.hid (grow_trans_new HG4.out hg5 hBs)
  obtain ⟨⟨k0, k1⟩, _⟩ := blk2 hb5
  clear hcv hb5 hg5 T3 HY4 HH4 HG4
  go_wp2_with fail
  refine (A4 _).mono ?_
  rintro e w6 ⟨rfl, hg6⟩
  go_wp2_with fail
  go_ret2
  exact ⟨rfl, grow_trans HG5.out hg6⟩

/- THE PLAIN LAWS. -/
theorem bigN_zeros : ∀ n, bigN (List.replicate n 0) = 0
  | 0 => rfl
  | n + 1 => by
    rw [List.replicate_succ', bigN_snoc, bigN_zeros n]
    rfl
theorem zeros_iff (a : List UInt8) (n : Nat) (h : a.length = n) : a = zerosL n ↔ bigN a = 0 := by
  constructor
  · rintro rfl
    exact bigN_zeros n
  · intro h2
    exact bigN_inj _ _ (by rw [h]; simp [zerosL]) (by rw [h2]; exact (bigN_zeros n).symm)

theorem xor_join (k c d A B : Nat) (hA : A < 2 ^ k) (hB : B < 2 ^ k) : (c * 2 ^ k + A) ^^^ (d * 2 ^ k + B) = (c ^^^ d) * 2 ^ k + (A ^^^ B) := by
  have h1 := hjoin k c A hA
  have h2 := hjoin k d B hB
  have h3 := hjoin k (c ^^^ d) (A ^^^ B) (Nat.xor_lt_two_pow hA hB)
  have hm : 2 ^ k * (c ^^^ d) = 2 ^ k * c ^^^ 2 ^ k * d := by
    apply Nat.eq_of_testBit_eq
    intro i
    rw [Nat.testBit_xor, Nat.testBit_two_pow_mul, Nat.testBit_two_pow_mul, Nat.testBit_two_pow_mul, Nat.testBit_xor]
    by_cases h : k ≤ i <;> simp [h]
  rw [Nat.mul_comm c, Nat.mul_comm d, Nat.mul_comm (c ^^^ d), ← h1, ← h2, ← h3, hm]
  ac_rfl

theorem bigN_xor : ∀ (a b : List UInt8), a.length = b.length → bigN (xorL a b) = bigN a ^^^ bigN b
  | [], [], _ => rfl
  | c :: a, d :: b, h => by
    have hl : a.length = b.length := by simpa using h
    have e : xorL (c :: a) (d :: b) = (c ^^^ d) :: xorL a b := rfl
    have hA := bigN_lt a
    have hB := bigN_lt b
    rw [e, bigN_cons, bigN_cons, bigN_cons, bigN_xor a b hl, xorL_length, hl, Nat.min_self, UInt8.toNat_xor]
    rw [hl] at hA
    rw [show (256 : Nat) = 2 ^ 8 from rfl, ← Nat.pow_mul] at hA hB ⊢
    exact (xor_join _ _ _ _ _ hA hB).symm

/-- Texts of blocks, xored. -/
theorem xor_text (m n : Nat) (hm : m < 2 ^ 128) (hn : n < 2 ^ 128) : xorL (bigB m 16) (bigB n 16) = bigB (m ^^^ n) 16 := by
  refine bigN_inj _ _ (by rw [xorL_length, bigB_length, bigB_length, bigB_length]; rfl) ?_
  rw [bigN_xor _ _ (by rw [bigB_length, bigB_length]), blk_forth hm, blk_forth hn, blk_forth (hxor_lt hm hn)]
theorem text_inj {m n : Nat} (hm : m < 2 ^ 128) (hn : n < 2 ^ 128) (h : bigB m 16 = bigB n 16) : m = n := by
  rw [← blk_forth hm, ← blk_forth hn, h]

theorem sized_xor (a b : List UInt8) (n : Nat) (h : a.length = b.length) : sizedL (xorL a b) n = xorL (sizedL a n) (sizedL b n) := by
  unfold sizedL zerosL xorL
  rw [List.length_zipWith, h, Nat.min_self, List.zipWith_append (by rw [List.length_take, List.length_take, h])]
  congr 1
  · rw [List.take_zipWith]
  · rw [List.zipWith_replicate]
    rw [Nat.min_self]
    rfl

/-- Sums of four texts of which the fourth is noughts, the third the two others', xored. -/
theorem ghF_four {h : Nat} (hh : h < 2 ^ 128) : ∀ (f : Nat) (s t : List UInt8) (a b c d : Nat), s.length = t.length → a < 2 ^ 128 → b < 2 ^ 128 → c < 2 ^ 128 → d < 2 ^ 128 → (a ^^^ b) ^^^ (c ^^^ d) = 0 →
    (ghF h f a s ^^^ ghF h f b t) ^^^ (ghF h f c (xorL s t) ^^^ ghF h f d (zerosL s.length)) = 0
  | 0, s, t, a, b, c, d, _, _, _, _, _, h0 => h0
  | f + 1, s, t, a, b, c, d, hl, ha, hb, hc, hd, h0 => by
    by_cases hs : s = []
    · subst hs
      obtain rfl : t = [] := List.eq_nil_of_length_eq_zero hl.symm
      exact h0
    · have h1 : 0 < s.length := List.length_pos_iff.2 hs
      have ht : t ≠ [] := fun e => by
        rw [e] at hl
        simp only [List.length_nil] at hl
        omega
      have hx : xorL s t ≠ [] := fun e => by
        have := xorL_length s t
        rw [e] at this
        simp only [List.length_nil] at this
        omega
      have hz : zerosL s.length ≠ [] := fun e => by
        have : (zerosL s.length).length = 0 := by rw [e]; rfl
        simp only [zerosL, List.length_replicate] at this
        omega
      rw [ghF, if_neg hs, ghF, if_neg ht, ghF, if_neg hx, ghF, if_neg hz]
      have e1 : (xorL s t).drop 16 = xorL (s.drop 16) (t.drop 16) := by unfold xorL; rw [List.drop_zipWith]
      have e2 : (zerosL s.length).drop 16 = zerosL (s.drop 16).length := by unfold zerosL; rw [List.drop_replicate, List.length_drop]
      have e3 : bigN (sizedL (zerosL s.length) 16) = 0 := by
        have : sizedL (zerosL s.length) 16 = List.replicate 16 0 := by
          unfold sizedL zerosL
          rw [List.length_replicate, List.take_replicate, List.replicate_append_replicate]
          congr 1
          omega
        rw [this]
        exact bigN_zeros 16
      have e4 : bigN (sizedL (xorL s t) 16) = bigN (sizedL s 16) ^^^ bigN (sizedL t 16) := by
        rw [sized_xor _ _ _ hl, bigN_xor _ _ (by rw [sizedL_length, sizedL_length])]
      rw [e1, e2, e3, e4]
      have bs := blk_lt (sizedL s 16) (sizedL_length s 16)
      have bt := blk_lt (sizedL t 16) (sizedL_length t 16)
      refine ghF_four hh f _ _ _ _ _ _ (by rw [List.length_drop, List.length_drop, hl]) (hmul_lt _ hh) (hmul_lt _ hh) (hmul_lt _ hh) (hmul_lt _ hh) ?_
      rw [← hmul_xor_l, ← hmul_xor_l, ← hmul_xor_l]
      generalize bigN (sizedL s 16) = u at *
      generalize bigN (sizedL t 16) = v at *
      have : (a ^^^ u ^^^ (b ^^^ v)) ^^^ (c ^^^ (u ^^^ v) ^^^ (d ^^^ 0)) = ((a ^^^ b) ^^^ (c ^^^ d)) ^^^ ((u ^^^ u) ^^^ (v ^^^ v)) := by
        rw [Nat.xor_zero]
        ac_rfl
      rw [this, h0, Nat.xor_self, Nat.xor_self]
      exact zero_hmul h

theorem ghF_same {h : Nat} (hh : h < 2 ^ 128) (t : List UInt8) : ∀ (f a b c d : Nat), a < 2 ^ 128 → b < 2 ^ 128 → c < 2 ^ 128 → d < 2 ^ 128 → (a ^^^ b) ^^^ (c ^^^ d) = 0 →
    ∀ t : List UInt8, (ghF h f a t ^^^ ghF h f b t) ^^^ (ghF h f c t ^^^ ghF h f d t) = 0
  | 0, a, b, c, d, _, _, _, _, h0, t => h0
  | f + 1, a, b, c, d, ha, hb, hc, hd, h0, t => by
    by_cases ht : t = []
    · rw [ghF, if_pos ht, ghF, if_pos ht, ghF, if_pos ht, ghF, if_pos ht]; exact h0
    · rw [ghF, if_neg ht, ghF, if_neg ht, ghF, if_neg ht, ghF, if_neg ht]
      refine ghF_same hh t f _ _ _ _ (hmul_lt _ hh) (hmul_lt _ hh) (hmul_lt _ hh) (hmul_lt _ hh) ?_ _
      rw [← hmul_xor_l, ← hmul_xor_l, ← hmul_xor_l]
      generalize bigN (sizedL t 16) = u at *
      have : (a ^^^ u ^^^ (b ^^^ u)) ^^^ (c ^^^ u ^^^ (d ^^^ u)) = ((a ^^^ b) ^^^ (c ^^^ d)) ^^^ ((u ^^^ u) ^^^ (u ^^^ u)) := by ac_rfl
      rw [this, h0, Nat.xor_self, Nat.xor_self]
      exact zero_hmul h

/-- GHASH is affine. -/
theorem hsum_four (h l m s t : List UInt8) (hh : h.length = 16) (hl : l.length = m.length) (hs : s.length = t.length) :
    xorL (xorL (hsumL h l s) (hsumL h m t)) (xorL (hsumL h (xorL l m) (xorL s t)) (hsumL h (zerosL l.length) (zerosL s.length))) = zerosL 16 := by
  have hn := blk_lt h hh
  have lx : (xorL l m).length = l.length := by rw [xorL_length, hl, Nat.min_self]
  have lx2 : (xorL s t).length = s.length := by rw [xorL_length, hs, Nat.min_self]
  have lz : ∀ n, (zerosL n).length = n := fun n => by simp [zerosL]
  have z0 : (0 : Nat) < 2 ^ 128 := by decide
  have k1 : (ghS (bigN h) 0 l ^^^ ghS (bigN h) 0 m) ^^^ (ghS (bigN h) 0 (xorL l m) ^^^ ghS (bigN h) 0 (zerosL l.length)) = 0 := by
    unfold ghS
    rw [lx, lz, ← hl]
    exact ghF_four hn _ _ _ _ _ _ _ hl z0 z0 z0 z0 (by decide)
  have a1 := ghS_lt hn z0 l
  have a2 := ghS_lt hn z0 m
  have a3 := ghS_lt hn z0 (xorL l m)
  have a4 := ghS_lt hn z0 (zerosL l.length)
  unfold hsumL
  rw [lx, lx2, lz, lz, ← hl, ← hs]
  generalize ghS (bigN h) 0 l = y1 at *
  generalize ghS (bigN h) 0 m = y2 at *
  generalize ghS (bigN h) 0 (xorL l m) = y3 at *
  generalize ghS (bigN h) 0 (zerosL l.length) = y4 at *
  have k2 : (ghS (bigN h) y1 s ^^^ ghS (bigN h) y2 t) ^^^ (ghS (bigN h) y3 (xorL s t) ^^^ ghS (bigN h) y4 (zerosL s.length)) = 0 := by
    unfold ghS
    rw [lx2, lz, ← hs]
    exact ghF_four hn _ _ _ _ _ _ _ hs a1 a2 a3 a4 k1
  have b1 := ghS_lt hn a1 s
  have b2 := ghS_lt hn a2 t
  have b3 := ghS_lt hn a3 (xorL s t)
  have b4 := ghS_lt hn a4 (zerosL s.length)
  generalize ghS (bigN h) y1 s = z1 at *
  generalize ghS (bigN h) y2 t = z2 at *
  generalize ghS (bigN h) y3 (xorL s t) = z3 at *
  generalize ghS (bigN h) y4 (zerosL s.length) = z4 at *
  generalize bigB (l.length * 8) 8 ++ bigB (s.length * 8) 8 = e
  have k3 : (ghS (bigN h) z1 e ^^^ ghS (bigN h) z2 e) ^^^ (ghS (bigN h) z3 e ^^^ ghS (bigN h) z4 e) = 0 := by
    unfold ghS
    exact ghF_same hn e _ _ _ _ _ b1 b2 b3 b4 k2 _
  have c1 := ghS_lt hn b1 e
  have c2 := ghS_lt hn b2 e
  have c3 := ghS_lt hn b3 e
  have c4 := ghS_lt hn b4 e
  rw [xor_text _ _ c1 c2, xor_text _ _ c3 c4, xor_text _ _ (hxor_lt c1 c2) (hxor_lt c3 c4), k3]
  exact (zeros_iff _ _ (bigB_length _ _)).2 (blk_forth z0)

end Go.Proofs.YtffeekfofbcobaaGreat

namespace Go.Proofs.YtffeekfofbcobaaGreat
open Go.RowKit
set_option linter.unusedVariables false

/-- A cipher: where its tables are, what its words are. -/
def Cph (w : World) (C T : Nat) (W : List UInt8) : Prop := Blk w C 159 [.pointer (some ⟨T, 0, none⟩), S W]

theorem Cph.c0 {w : World} {C T : Nat} {W : List UInt8} (h : Cph w C T W) : w.cell? ⟨C, 0, none⟩ = some (.pointer (some ⟨T, 0, none⟩)) := by rw [Blk.cell h]; rfl
theorem Cph.c1 {w : World} {C T : Nat} {W : List UInt8} (h : Cph w C T W) : w.cell? ⟨C, 1, none⟩ = some (S W) := by rw [Blk.cell h]; rfl

theorem info16b : (Tryz.prog.info? 172).map (·.size) = some 16 := by kernel_rfl

theorem bcells_mem (l : List UInt8) : ∀ v ∈ l.map bcell, v.oneCell' = true := by
  intro v hv
  obtain ⟨c, _, rfl⟩ := List.mem_map.1 hv
  rfl

/-- What stands behind '[16]byte([]byte(text))' in a new variable. -/
def Boxed16 (w : World) (l : List UInt8) (y : World) (B : Nat) : Prop := BB y B l ∧ w.grownBy y none ∧ w.heap.size ≤ B

set_option maxRecDepth 20000 in
set_option maxHeartbeats 1000000 in
theorem code_encT (w : World) (C T n : Nat) (W text : List UInt8) (hC : Cph w C T W) (hT : Tab w T) (ht : text.length = 16) (hW : W.length = 16 * (n + 1)) (hn : 1 ≤ n) (hn2 : n ≤ 100) :
    Calls Tryz.prog 108 #[.pointer (some ⟨C, 0, none⟩), S text] w fun e w' => e = .returned (S (encS W n text)) ∧ w.grownBy w' none := by
  obtain ⟨cap, x, hcv, hcap, hgx, hltx, hby⟩ := to_bytes w text (by omega)
  have hCl := Blk.lt hC
  have hTl := TabK.lt hT
  have hcc := hC.c1
  have HC := Lib.hid (Blk.kept hC hgx nofun)
  have HT := Lib.hid (hT.kept hgx nofun)
  have hsv := fun V : World => run_store_new (P := Tryz.prog) V #[.int .u8 0, .int .u8 0, .int .u8 0, .int .u8 0, .int .u8 0, .int .u8 0, .int .u8 0, .int .u8 0, .int .u8 0, .int .u8 0, .int .u8 0, .int .u8 0, .int .u8 0, .int .u8 0, .int .u8 0, .int .u8 0] 172 (text.map bcell) (by simp [ht]) (bcells_mem text)
  have hr : x.rangeAt w.heap.size 0 (text.map bcell) := by
    intro j v hv
    rw [Nat.zero_add]
    by_cases hj : j < text.length
    · rw [hby.cell j hj]
      simp [hj, bcell] at hv
      rw [hv]
    · rw [List.getElem?_eq_none (by simpa using hj)] at hv
      cases hv
  have hat := fun V : World => run_arrayAt (P := Tryz.prog) (w := V) 172 5 16 (some ⟨w.heap.size, 0, none⟩) 16 cap Tryz.underlying172 (Nat.le_refl _)
  have HTX := Lib.hid ht
  have HW := Lib.hid hW
  have q1 : ¬ text.length < 16 := by omega
  have HX := Lib.hid (And.intro hgx hltx)
  have lW : 16 ≤ W.length := by omega
  have HBY := Lib.hid hby
  rw [ht] at hcv
  clear ht hW hby hgx hltx hC hT hcap
  unfold S at *
  go_enter Tryz.func108, Tryz.ntmps108
  go_upto_region 2 with (fail)
  refine wp_region_lit ?_
  refine Go.Great.wpList_readTo rfl _ rfl (.string ⟨text.toArray⟩) rfl ?_
  refine Go.Great.wpList_runTo rfl _ rfl (.slice (some ⟨w.heap.size, 0, none⟩) 16 cap) x (by simp [execOp, Act.eval, Act.put, hcv]) ?_
  refine Go.Great.wpList_readTo rfl _ rfl (.pointer (some ⟨w.heap.size, 0, none⟩)) (by simp [execOp, Act.eval, Act.put, hat]) ?_
  refine wpList_load_mid rfl 172 _ rfl w.heap.size 0 rfl (text.map bcell) _ hr Tryz.underlying172 rfl (by rw [List.length_map, HTX.out]; exact info16b) ?_
  go_upto_region 3 with (fail)
  clear hsv hat hr hcv
  obtain ⟨B, hBe⟩ : ∃ B, B = x.heap.size := ⟨_, rfl⟩
  have hB0 : BB (x.alloc (.cells (text.map bcell).toArray 172)) B text := by rw [hBe]; exact Blk.new x _ _
  have hC0 : Cph (x.alloc (.cells (text.map bcell).toArray 172)) C T W := Blk.kept HC.out (World.grownBy_alloc _ _ none) nofun
  have hT0 : Tab (x.alloc (.cells (text.map bcell).toArray 172)) T := HT.out.kept (World.grownBy_alloc _ _ none) nofun
  have hg0 : w.grownBy (x.alloc (.cells (text.map bcell).toArray 172)) none := grow_alloc HX.out.1 _
  have hwB : w.heap.size ≤ B := by rw [hBe]; exact HX.out.1.size
  rw [← hBe]
  clear hBe HC HT HX HBY
  generalize x.alloc (.cells (text.map bcell).toArray 172) = y at *
  have HB0 := Lib.hid hB0
  have HC0 := Lib.hid hC0
  have HT0 := Lib.hid hT0
  have HG0 := Lib.hid hg0
  have hTg : ∀ W' : World, y.grownBy W' (some B) → Hid (∀ c : UInt8, W'.cell? ⟨T, 0 + c.toNat, none⟩ = some (.int .u8 ((gsubB c).toNat : Int))) := fun W' g => Lib.hid (fun c => by rw [Nat.zero_add]; exact Tab.sub (HT0.out.kept g (by simp; omega)) c)
  have hCg : ∀ W' : World, y.grownBy W' (some B) → Hid (W'.cell? ⟨C, 0, none⟩ = some (.pointer (some ⟨T, 0, none⟩))) := fun W' g => Lib.hid (Cph.c0 (W := W) (Blk.kept HC0.out g (by simp; omega)))
  clear hB0 hC0 hT0 hg0 hcc
  go_wp2_with fail
  refine (code_aadd y B text W HB0.out HTX.out lW (by have := HW.out; omega)).mono ?_
  rintro e w1 ⟨rfl, hB1, hg1⟩
  have e16 : List.take (W.length - 16) (List.drop 16 W) = List.drop 16 W := List.take_of_length_le (by simp)
  have HB1 := Lib.hid hB1
  have HG1 := Lib.hid hg1
  have r2 := rule_ext
  clear hB1 hg1 HB0
  go_wp2_with fail
  clear e16
  go_loopw [5] (fun vw wr => ∃ (r : Nat) (U : List UInt8), r ≤ n ∧ vw = .string ⟨U.toArray⟩ ∧ Hid (U = W.drop (16 * (r + 1))) ∧ U.length + 16 * r = 16 * n ∧ Hid (BB wr B (encS W r text)) ∧ Hid (y.grownBy wr (some B))) (fun vw _ => match vw with | .string b => b.size | _ => 0)
  case atStart => exact ⟨0, W.drop 16, by omega, rfl, Lib.hid rfl, by rw [List.length_drop, HW.out]; omega, Lib.hid HB1.out, Lib.hid HG1.out⟩
  case round =>
    clear HB1 HG1
    obtain ⟨r, U, hrn, rfl, hU, hUl, hB, hg⟩ := hrel
    by_cases hlt : r < n
    · have lne : U ≠ [] := by intro e; subst e; simp at hUl; omega
      have q1 : (!U.isEmpty) = true := by simpa using lne
      have q2 : U.isEmpty = false := by simpa using lne
      have es := encS_length W text HTX.out r (by rw [HW.out]; omega)
      have HES := Lib.hid es
      have hc0 := (hCg wr hg.out).out
      clear es lne
      go_wp2_with fail
      refine (code_through wr B T 0 gsubB (encS W r text) hB.out HES.out (fun W' g => (hTg W' (grow_trans hg.out g)).out)).mono ?_
      rintro e w2 ⟨rfl, hB2, hg2⟩
      have HB2 := Lib.hid hB2
      have HG2 := Lib.hid (grow_trans hg.out hg2)
      clear hB2 hg2 hc0
      go_wp2_with fail
      refine (code_arows w2 B 1 _ HB2.out (by rw [List.length_map]; exact HES.out) (by omega)).mono ?_
      rintro e w3 ⟨rfl, hB3, hg3⟩
      have HB3 := Lib.hid hB3
      have HG3 := Lib.hid (grow_trans HG2.out hg3)
      clear hB3 hg3
      have e16 : List.take (U.length - 16) (List.drop 16 U) = List.drop 16 U := List.take_of_length_le (by simp)
      have l16 : 16 ≤ U.length := by omega
      have hnx : Hid (U.drop 16 = W.drop (16 * (r + 1 + 1))) := Lib.hid (by rw [hU.out, List.drop_drop]; congr 1)
      by_cases h16 : 16 < U.length
      · have hen : Hid (encS W (r + 1) text = xorL (colsL [2, 3, 1, 1] (rowsL 1 ((encS W r text).map gsubB))) U) := Lib.hid (by
          rw [encS, encR, if_pos (by rw [← List.length_drop, ← hU.out]; exact h16), hU.out])
        have q3 : (16 : Int) < (U.length : Int) := by omega
        go_wp2_with fail
        refine (code_acols w3 B [2, 3, 1, 1] _ HB3.out (rowsL_length _ _) rfl).mono ?_
        rintro e w4 ⟨rfl, hB4, hg4⟩
        have HB4 := Lib.hid hB4
        have HG4 := Lib.hid (grow_trans HG3.out hg4)
        clear hB4 hg4
        go_wp2_with fail
        refine (code_aadd w4 B _ U HB4.out (colsL_length _ _) l16 (by have := HW.out; omega)).mono ?_
        rintro e w5 ⟨rfl, hB5, hg5⟩
        have HB5 := Lib.hid hB5
        have HG5 := Lib.hid (grow_trans HG4.out hg5)
        clear hB5 hg5
        go_wp2_with fail
        go_roundw
        case rel => exact ⟨r + 1, U.drop 16, by omega, rfl, hnx, by rw [List.length_drop]; omega, Lib.hid (by rw [hen.out]; exact HB5.out), HG5⟩
        case measure => simp [ByteArray.size]; omega
      · have hen : Hid (encS W (r + 1) text = xorL (rowsL 1 ((encS W r text).map gsubB)) U) := Lib.hid (by
          rw [encS, encR, if_neg (by rw [← List.length_drop, ← hU.out]; exact h16), hU.out])
        have q3 : ¬ (16 : Int) < (U.length : Int) := by omega
        go_wp2_with fail
        refine (code_aadd w3 B _ U HB3.out (rowsL_length _ _) l16 (by have := HW.out; omega)).mono ?_
        rintro e w5 ⟨rfl, hB5, hg5⟩
        have HB5 := Lib.hid hB5
        have HG5 := Lib.hid (grow_trans HG3.out hg5)
        clear hB5 hg5
        go_wp2_with fail
        go_roundw
        case rel => exact ⟨r + 1, U.drop 16, by omega, rfl, hnx, by rw [List.length_drop]; omega, Lib.hid (by rw [hen.out]; exact HB5.out), HG5⟩
        case measure => simp [ByteArray.size]; omega
    · obtain rfl : r = n := by omega
      obtain rfl : U = [] := List.eq_nil_of_length_eq_zero (by omega)
      have hcs := conv_bys (BB.bys hB.out) 16
      rw [encS_length W text HTX.out r (by have := HW.out; omega)] at hcs
      have HG := Lib.hid (grow_trans_new HG0.out hg.out hwB)
      go_wp2_with fail
      go_ret
      exact ⟨rfl, HG.out⟩

end Go.Proofs.YtffeekfofbcobaaGreat

namespace Go.Proofs.YtffeekfofbcobaaGreat
open Go.RowKit
set_option linter.unusedVariables false

def OwnBro (w : World) (base : Nat) (l : List UInt8) (e : Ending) (w' : World) : Prop := ∃ v', e = .returned v' ∧ bro w' base v' l ∧ Below base w w'

set_option maxHeartbeats 1000000 in
theorem bro_appendBig (w : World) (base : Nat) (v : Value) (l : List UInt8) (n k : Nat) (hown : bro w base v l) (hn : n < 18446744073709551616) (hk : k ≤ 8) (hl : l.length + 8 ≤ 140737488355328) (hb : base ≤ w.heap.size) :
    Calls Tryz.prog 43 #[v, .int .u64 n, .int .i64 k] w (OwnBro w base (l ++ bigB n k)) := by
  go_enter Tryz.func43, Tryz.ntmps43
  go_wp2
  go_loopw [0, 9] (fun vb vi wr => ∃ j : Nat, j ≤ k ∧ vi = .int .i64 j ∧ Hid (bro wr base vb (l ++ (bigB n k).take j)) ∧ Below base w wr) (fun _ vi _ => k - (intOf vi).toNat)
  case atStart => exact ⟨0, by omega, rfl, Lib.hid (by rw [List.take_zero, List.append_nil]; exact hown), Below.refl _ _⟩
  case round =>
    obtain ⟨j, hj, rfl, hK, HB⟩ := hrel
    clear hown
    have hlen := bigB_length n k
    have hbz := HB.size
    by_cases hlt : j < k
    · have hsn := bigB_snoc n k j hlt
      have lt : ((bigB n k).take j).length = j := by rw [List.length_take, hlen]; omega
      obtain ⟨g, cap, hv, k1, k2, k3, k4, h5, h6⟩ := id hK.out
      subst hv
      obtain ⟨v', w', hr, hb2, hg2⟩ := bro_app1 (UInt8.ofNat (n / 2 ^ (8 * (k - 1 - j)))) hK.out (by rw [List.length_append, lt]; omega) (by omega)
      rw [List.append_assoc, ← hsn] at hb2
      have HNX := Lib.hid (And.intro hb2 (HB.trans (grow_below hg2 base (by omega) (by intro b hb; cases hb; exact k1))))
      clear hsn hb2 hg2 h5 h6 hK HB k1 k2 k3 k4
      generalize (l ++ (bigB n k).take j).length = ln at *
      have e1 : 0 ≤ 8 * ((k : Int) - 1 - j) := by omega
      have e2 : 8 * ((k : Int) - 1 - j) ≤ 64 := by omega
      have hc : Value.int .u8 (((n / 2 ^ (8 * (k - 1 - j)) % 256 : Nat)) : Int) = .int .u8 ((UInt8.ofNat (n / 2 ^ (8 * (k - 1 - j)))).toNat : Int) := bcell_of _
      go_wp2_with (at_builtin; go_must (refine append_run rfl _ _ _ _ v' w' ?c1 rfl rfl rfl rfl ?_))
      case c1 =>
        rw [← hr]
        congr 2
      clear hr
      go_wp2_with fail
      go_roundw
      case rel => exact ⟨j + 1, by omega, by go_num, Lib.hid HNX.out.1, HNX.out.2⟩
      case measure => simp [intOf]; omega
    · obtain rfl : j = k := by omega
      have hfin : bro wr base u0 (l ++ bigB n j) := by
        have := hK.out
        rwa [List.take_of_length_le (by omega)] at this
      have HF := Lib.hid hfin
      clear hfin hK
      go_wp2
      go_ret
      exact ⟨_, rfl, HF.out, HB⟩

end Go.Proofs.YtffeekfofbcobaaGreat

namespace Go.Proofs.YtffeekfofbcobaaGreat
open Go.RowKit
set_option linter.unusedVariables false

theorem bld_size : (Tryz.prog.info? 80).map (·.size) = some 2 := by kernel_rfl
theorem bld_lies : liesAt Tryz.prog Tryz.prog.depth 80 (2 / Tryz.prog.cellsOf 80) 0 80 1 = true := by kernel_rfl

def Bld (B b : Nat) (l : List UInt8) (w : World) : Prop := Lib.IsBuilder 80 5 B b (Lib.byteCells l) w

set_option maxHeartbeats 1000000 in
set_option maxRecDepth 100000 in
theorem bld_used (b : Nat) (w : World) (h0 : w.cell? ⟨b, 0, none⟩ = some (.pointer (some ⟨b, 0, none⟩))) :
    Calls Tryz.prog 47 #[.pointer (some ⟨b, 0, none⟩)] w fun e w' => e = .returned (.tuple #[]) ∧ w' = w := by
  obtain ⟨j, hj, _⟩ := Option.map_eq_some_iff.1 bld_size
  go_enter Tryz.func47, Tryz.ntmps47
  go_wp2_with fail
  rw [Lib.run_neq_ptr_same w _ Tryz.underlying78 hj]
  go_wp2_with fail
  go_end0
  exact ⟨rfl, rfl⟩

set_option maxHeartbeats 1000000 in
set_option maxRecDepth 100000 in
theorem bld_fresh (b : Nat) (w : World) (h0 : w.cell? ⟨b, 0, none⟩ = some (.pointer none)) (hsh : w.shape? b = some (80, 2)) (hfz : w.frozen? ⟨b, 0, none⟩ = false) :
    Calls Tryz.prog 47 #[.pointer (some ⟨b, 0, none⟩)] w fun e w' => e = .returned (.tuple #[]) ∧ w' = w.setCell ⟨b, 0, none⟩ (.pointer (some ⟨b, 0, none⟩)) := by
  obtain ⟨j, hj, hjs⟩ := Option.map_eq_some_iff.1 bld_size
  go_enter Tryz.func47, Tryz.ntmps47
  go_wp2_with fail
  rw [Lib.run_to_unsafe w ⟨b, 0, none⟩ Tryz.underlying78 Tryz.underlying112 hj (by rw [hjs]; decide) hsh (Nat.zero_lt_succ 1)]
  simp only [Result.andThen]
  rw [Oper.upon_value]
  go_wp2_with fail
  rw [run_callFunc_extern Tryz.func53 (by kernel_rfl) (by kernel_rfl) (by kernel_rfl) (e := Extern.AbiNoEscape.same) (by kernel_rfl)]
  rw [Lib.run_noEscape]
  simp only [Result.andThen]
  rw [Oper.upon_value]
  go_wp2_with fail
  rw [Lib.run_from_unsafe w ⟨b, 0, none⟩ Tryz.underlying112 Tryz.underlying78 hj hsh bld_lies]
  simp only [Result.andThen]
  rw [Oper.upon_value]
  go_wp2_with fail
  go_end0
  exact ⟨rfl, rfl⟩

theorem bld_check (B b : Nat) (bs : List Value) (w : World) (h : Lib.IsBuilder 80 5 B b bs w) :
    Calls Tryz.prog 47 #[.pointer (some ⟨b, 0, none⟩)] w fun e w' => e = .returned (.tuple #[]) ∧ (Lib.BuilderAt 80 5 B b (.pointer (some ⟨b, 0, none⟩)) bs w' ∧ Below B w w') := by
  rcases h with h | h
  · refine (bld_fresh b w h.cell0 h.shape h.frozen0).mono ?_
    rintro e w' ⟨rfl, rfl⟩
    exact ⟨rfl, h.used _, (Below.refl B w).setCell (p := ⟨b, 0, none⟩) h.1 _⟩
  · refine (bld_used b w h.cell0).mono ?_
    rintro e w' ⟨rfl, rfl⟩
    exact ⟨rfl, h, Below.refl B _⟩

set_option maxHeartbeats 2000000 in
set_option maxRecDepth 100000 in
theorem bld_write (B b : Nat) (bs : List Value) (s : ByteArray) (w : World) (h : Lib.IsBuilder 80 5 B b bs w) (hlen : bs.length + s.size ≤ 140737488355328) (hBw : B ≤ w.heap.size) :
    Calls Tryz.prog 35 #[.pointer (some ⟨b, 0, none⟩), .string s] w fun e w' => e = .returned (.tuple #[.int .i64 s.size, .nilIface]) ∧ (Lib.BuilderAt 80 5 B b (.pointer (some ⟨b, 0, none⟩)) (bs ++ Lib.strCells s) w' ∧ Below B w w') := by
  obtain ⟨i0, hi, hz0, hz1, hz2⟩ := info_parts info_u8
  go_enter Tryz.func35, Tryz.ntmps35
  go_wp2_with fail
  refine (bld_check B b bs _ h).mono ?_
  rintro e w1 ⟨rfl, h1, hb1⟩
  obtain ⟨hB, v, hbk, hown, hne⟩ := h1
  have c0 : w1.cell? ⟨b, 0, none⟩ = some (.pointer (some ⟨b, 0, none⟩)) := by rw [Lib.cell_of_heap hbk]; rfl
  have c1 : w1.cell? ⟨b, 1, none⟩ = some v := by rw [Lib.cell_of_heap hbk]; rfl
  go_wp2_with (at_builtin; refine Lib.wpList_append_own_string _ rfl _ _ 46 9 rfl B 5 i0 Tryz.underlying46 Tryz.underlying9 hi hz0 hz1 hz2 _ _ _ rfl hown s rfl ?c3 ?c4 ?c5 ?_)
  case c3 => unfold maxLen; omega
  case c4 => omega
  case c5 => have := hb1.size; omega
  intro v' w2 hown' hgrow _
  have hlt : b < w1.heap.size := by
    rcases Nat.lt_or_ge b w1.heap.size with h' | h'
    · exact h'
    · simp [Array.getElem?_eq_none h'] at hbk
  have hb2 : w2.heap[b]? = some (.cells #[.pointer (some ⟨b, 0, none⟩), v] 80 (0, 0)) := by
    rw [hgrow.block b hlt (fun e => hne e.symm)]
    exact hbk
  have d0 : w2.cell? ⟨b, 0, none⟩ = some (.pointer (some ⟨b, 0, none⟩)) := by rw [Lib.cell_of_heap hb2]; rfl
  have d1 : w2.cell? ⟨b, 1, none⟩ = some v := by rw [Lib.cell_of_heap hb2]; rfl
  have f1 : w2.frozen? ⟨b, 1, none⟩ = false := Lib.frozen_of_heap hb2 1
  obtain ⟨ao, n', cap, rfl⟩ : ∃ ao n' cap, v' = .slice ao n' cap := by
    rcases hown'.2 with ⟨hv, _⟩ | ⟨g, cap, cur, hv, _⟩
    · exact ⟨_, _, _, hv⟩
    · exact ⟨_, _, _, hv⟩
  go_wp2_with fail
  go_ret2
  refine ⟨rfl, ?_, ?_⟩
  · exact Lib.BuilderAt.put (T := 80) (e := 5) hB hb2 (bs' := bs ++ Lib.strCells s) (by simpa [Lib.strCells_length] using hown') (by decide)
  · exact (hb1.grown hgrow (by have := hb1.size; omega) (fun k hk => (hown.lt k hk).1)).setCell (p := ⟨b, 1, none⟩) hB _

/-- What is written behind. -/
theorem bld_text (B b : Nat) (l s : List UInt8) (w : World) (h : Bld B b l w) (hlen : l.length + s.length ≤ 140737488355328) (hBw : B ≤ w.heap.size) :
    Calls Tryz.prog 35 #[.pointer (some ⟨b, 0, none⟩), S s] w fun e w' => e = .returned (.tuple #[.int .i64 s.length, .nilIface]) ∧ Bld B b (l ++ s) w' ∧ Below B w w' := by
  have hs : (ByteArray.mk s.toArray).size = s.length := by simp [ByteArray.size]
  refine (bld_write B b (Lib.byteCells l) ⟨s.toArray⟩ w h (by rw [Lib.byteCells_length, hs]; exact hlen) hBw).mono ?_
  rintro e w' ⟨rfl, h1, h2⟩
  refine ⟨by rw [hs], Or.inr ?_, h2⟩
  rw [Lib.byteCells_append]
  exact h1

/-- A new builder. -/
theorem bld_new (w : World) (B : Nat) (hB : B ≤ w.heap.size) : Bld B w.heap.size [] (w.alloc (.cells #[.pointer none, .slice none 0 0] 80)) :=
  Or.inl ⟨hB, .slice none 0 0, obj_new w _, World.ownsRow_nil _ _ _ _, nofun⟩

end Go.Proofs.YtffeekfofbcobaaGreat

namespace Go.Proofs.YtffeekfofbcobaaGreat
open Go.RowKit
set_option linter.unusedVariables false

def isKeyB (key : List UInt8) : Bool := decide (key.length = 16 ∨ key.length = 32)
theorem code_isKey (w : World) (key : List UInt8) : Calls Tryz.prog 104 #[S key] w fun e w' => e = .returned (.bool (isKeyB key)) ∧ w = w' := by
  unfold isKeyB S
  by_cases h1 : key.length = 16
  · have q : ((key.length : Int) == 16) = true := by simp; omega
    rw [decide_eq_true (Or.inl h1)]
    clear h1
    go_enter Tryz.func104, Tryz.ntmps104
    go_wp2_with fail
    go_ret
    exact ⟨rfl, rfl⟩
  · have q : ((key.length : Int) == 16) = false := by simp; omega
    by_cases h2 : key.length = 32
    · have q2 : ((key.length : Int) == 32) = true := by simp; omega
      rw [decide_eq_true (Or.inr h2)]
      clear h1 h2
      go_enter Tryz.func104, Tryz.ntmps104
      go_wp2_with fail
      go_ret
      exact ⟨rfl, rfl⟩
    · have q2 : ((key.length : Int) == 32) = false := by simp; omega
      rw [decide_eq_false (by omega)]
      clear h1 h2
      go_enter Tryz.func104, Tryz.ntmps104
      go_wp2_with fail
      go_ret
      exact ⟨rfl, rfl⟩

/-- A new cipher of a key. -/
def NewC (w : World) (key : List UInt8) (e : Ending) (w' : World) : Prop := ∃ C T, e = .returned (.pointer (some ⟨C, 0, none⟩)) ∧ Cph w' C T (expL key) ∧ Tab w' T ∧ w.heap.size ≤ C ∧ w.heap.size ≤ T ∧ w.grownBy w' none

theorem code_new_err (w : World) (key : List UInt8) (hk : ¬ (key.length = 16 ∨ key.length = 32)) :
    Calls Tryz.prog 101 #[S key] w fun e w' => e = .returned (.pointer none) ∧ w = w' := by
  have H := Lib.hid (show isKeyB key = false from decide_eq_false hk)
  clear hk
  unfold S
  go_enter Tryz.func101, Tryz.ntmps101
  go_wp2_with fail
  refine (code_isKey w key).mono ?_
  rintro e w1 ⟨rfl, rfl⟩
  rw [H.out]
  go_wp2_with fail
  go_ret
  exact ⟨rfl, rfl⟩

theorem code_anew (w : World) (key : List UInt8) (hk : key.length = 16 ∨ key.length = 32) :
    Calls Tryz.prog 101 #[S key] w (NewC w key) := by
  have H := Lib.hid (show isKeyB key = true from decide_eq_true hk)
  have HK := Lib.hid hk
  clear hk
  unfold S
  go_enter Tryz.func101, Tryz.ntmps101
  go_wp2_with fail
  refine (code_isKey w key).mono ?_
  rintro e w1 ⟨rfl, rfl⟩
  rw [H.out]
  go_wp2_with fail
  refine (code_made _).mono ?_
  rintro e w1 ⟨T, rfl, hT1, hT2, hg1⟩
  have HT := Lib.hid hT2
  clear hT2
  go_wp2_with fail
  refine (code_expandT w1 T (key.length / 4) key HT.out (by have := HK.out; omega) (by have := HK.out; omega)).mono ?_
  rintro e w2 ⟨rfl, hg2⟩
  unfold S
  go_wp2_with fail
  go_ret
  exact ⟨_, T, rfl, obj_new w2 _, (HT.out.kept hg2 nofun).kept (World.grownBy_alloc _ _ none) nofun, (grow_trans hg1 hg2).size, hT1, grow_alloc (grow_trans hg1 hg2) _⟩

def noneE : Value := .tuple #[S [], .int .i64 1]

end Go.Proofs.YtffeekfofbcobaaGreat

namespace Go.Proofs.YtffeekfofbcobaaGreat
set_option linter.unusedVariables false

theorem xorL_nil_right (s : List UInt8) : xorL s [] = [] := by cases s <;> rfl
theorem xorL_nil_left (s : List UInt8) : xorL [] s = [] := by cases s <;> rfl

theorem xorL_append : ∀ (b s r : List UInt8), xorL s (b ++ r) = xorL s b ++ xorL (s.drop b.length) r
  | [], s, r => by simp [xorL_nil_right]
  | c :: b, [], r => by simp [xorL_nil_left]
  | c :: b, d :: s, r => by
    have := xorL_append b s r
    simp only [xorL, List.cons_append, List.zipWith_cons_cons, List.length_cons, List.drop_succ_cons] at this ⊢
    rw [this]

theorem xorL_append_left : ∀ (s t b r : List UInt8), s.length = b.length → xorL (s ++ t) (b ++ r) = xorL s b ++ xorL t r
  | [], t, [], r, _ => rfl
  | c :: s, t, d :: b, r, h => by
    have := xorL_append_left s t b r (by simpa using h)
    simp only [xorL, List.cons_append, List.zipWith_cons_cons] at this ⊢
    rw [this]

theorem xorL_twice : ∀ (s K : List UInt8), s.length ≤ K.length → xorL (xorL s K) K = s
  | [], K, _ => by simp [xorL_nil_left]
  | c :: s, [], h => by simp at h
  | c :: s, k :: K, h => by
    have := xorL_twice s K (by simpa using h)
    simp only [xorL, List.zipWith_cons_cons] at this ⊢
    rw [this, UInt8.xor_assoc, UInt8.xor_self, UInt8.xor_zero]

theorem xorL_pair : ∀ (s t K : List UInt8), s.length ≤ K.length → t.length ≤ K.length → xorL (xorL s K) (xorL t K) = xorL s t
  | [], t, K, _, _ => by simp [xorL_nil_left]
  | c :: s, [], K, _, _ => by simp [xorL_nil_left, xorL_nil_right]
  | c :: s, d :: t, [], h, _ => by simp at h
  | c :: s, d :: t, k :: K, h1, h2 => by
    have := xorL_pair s t K (by simpa using h1) (by simpa using h2)
    simp only [xorL, List.zipWith_cons_cons] at this ⊢
    rw [this]
    congr 1
    rw [UInt8.xor_assoc, ← UInt8.xor_assoc k, UInt8.xor_comm k d, UInt8.xor_assoc d, UInt8.xor_self, UInt8.xor_zero]

theorem xorL_take (s K r : List UInt8) (h : s.length ≤ K.length) : xorL s (K ++ r) = xorL s K := by
  rw [xorL_append, List.drop_of_length_le h, xorL_nil_left, List.append_nil]

end Go.Proofs.YtffeekfofbcobaaGreat

namespace Go.Proofs.YtffeekfofbcobaaGreat
open Go.RowKit
set_option linter.unusedVariables false

/-- The block of a number. -/
def gblk (key nonce : List UInt8) (n : Nat) : List UInt8 := encL key (nonce ++ bigB n 4)
theorem gblk_length (key nonce : List UInt8) (n : Nat) (hk : key.length = 32) (hn : nonce.length = 12) : (gblk key nonce n).length = 16 :=
  encL_length key _ (Or.inr hk) (by rw [List.length_append, bigB_length, hn])

/-- A text xored with the blocks from number n on (so many at most). -/
def gcx (key nonce : List UInt8) : Nat → Nat → List UInt8 → List UInt8
  | 0, _, _ => []
  | f + 1, n, s => if s = [] then [] else xorL s (gblk key nonce n) ++ gcx key nonce f (n + 1) (s.drop 16)
def gcxL (key nonce : List UInt8) (s : List UInt8) : List UInt8 := gcx key nonce (s.length + 1) 2 s

theorem gcx_nil (key nonce : List UInt8) (f n : Nat) : gcx key nonce f n [] = [] := by
  cases f <;> simp [gcx]

/-- So many blocks. -/
def gstr (key nonce : List UInt8) : Nat → Nat → List UInt8
  | 0, _ => []
  | f + 1, n => gblk key nonce n ++ gstr key nonce f (n + 1)
theorem gstr_length (key nonce : List UInt8) (hk : key.length = 32) (hn : nonce.length = 12) : ∀ (f n : Nat), (gstr key nonce f n).length = 16 * f
  | 0, _ => rfl
  | f + 1, n => by rw [gstr, List.length_append, gblk_length _ _ _ hk hn, gstr_length key nonce hk hn f]; omega
theorem gcx_stream (key nonce : List UInt8) (hk : key.length = 32) (hn : nonce.length = 12) : ∀ (f n : Nat) (s : List UInt8), s.length ≤ 16 * f → gcx key nonce f n s = xorL s (gstr key nonce f n)
  | 0, n, s, h => by
    obtain rfl : s = [] := List.eq_nil_of_length_eq_zero (by omega)
    rfl
  | f + 1, n, s, h => by
    unfold gcx
    by_cases e : s = []
    · subst e
      simp [xorL_nil_left]
    · rw [if_neg e, gstr, xorL_append, gblk_length _ _ _ hk hn, gcx_stream key nonce hk hn f _ _ (by rw [List.length_drop]; omega)]
theorem gcxL_length (key nonce s : List UInt8) (hk : key.length = 32) (hn : nonce.length = 12) : (gcxL key nonce s).length = s.length := by
  unfold gcxL
  rw [gcx_stream key nonce hk hn _ _ _ (by omega), xorL_length, gstr_length _ _ hk hn]
  omega
theorem gcxL_twice (key nonce s : List UInt8) (hk : key.length = 32) (hn : nonce.length = 12) : gcxL key nonce (gcxL key nonce s) = s := by
  have hl := gcxL_length key nonce s hk hn
  unfold gcxL at hl ⊢
  rw [hl, gcx_stream key nonce hk hn _ _ (gcx key nonce (s.length + 1) 2 s) (by omega), gcx_stream key nonce hk hn _ _ s (by omega)]
  exact xorL_twice _ _ (by rw [gstr_length _ _ hk hn]; omega)
theorem gcxL_pair (key nonce s t : List UInt8) (hk : key.length = 32) (hn : nonce.length = 12) (h : t.length = s.length) : xorL (gcxL key nonce s) (gcxL key nonce t) = xorL s t := by
  unfold gcxL
  rw [h, gcx_stream key nonce hk hn _ _ s (by omega), gcx_stream key nonce hk hn _ _ t (by omega)]
  exact xorL_pair _ _ _ (by rw [gstr_length _ _ hk hn]; omega) (by rw [gstr_length _ _ hk hn]; omega)

def gtagL (key nonce more s : List UInt8) : List UInt8 := xorL (hsumL (encL key (zerosL 16)) more s) (gblk key nonce 1)
theorem gtagL_length (key nonce more s : List UInt8) (hk : key.length = 32) (hn : nonce.length = 12) : (gtagL key nonce more s).length = 16 := by
  unfold gtagL
  rw [xorL_length, hsumL_length, gblk_length _ _ _ hk hn]
  rfl
def gsealL (key nonce more text : List UInt8) : List UInt8 := gcxL key nonce text ++ gtagL key nonce more (gcxL key nonce text)
theorem gsealL_length (key nonce more text : List UInt8) (hk : key.length = 32) (hn : nonce.length = 12) : (gsealL key nonce more text).length = text.length + 16 := by
  unfold gsealL
  rw [List.length_append, gtagL_length _ _ _ _ hk hn, gcxL_length _ _ _ hk hn]
theorem gsealL_take (key nonce more text : List UInt8) (hk : key.length = 32) (hn : nonce.length = 12) : (gsealL key nonce more text).take text.length = gcxL key nonce text := by
  have := gcxL_length key nonce text hk hn
  unfold gsealL
  rw [List.take_append_of_le_length (by omega), List.take_of_length_le (by omega)]

theorem gdrop_part (s b : List UInt8) (hb : b.length = 16) : s.drop (xorL s b).length = s.drop 16 := by
  rw [xorL_length, hb]
  rcases Nat.lt_or_ge s.length 16 with h | h
  · rw [Nat.min_eq_left (by omega), List.drop_length, List.drop_of_length_le (by omega)]
  · rw [Nat.min_eq_right h]

theorem gcm_vec1 : gsealL (zerosL 32) (zerosL 12) [] (zerosL 16) = [206, 167, 64, 61, 77, 96, 107, 110, 7, 78, 197, 211, 186, 243, 157, 24, 208, 209, 200, 167, 153, 153, 107, 240, 38, 91, 152, 181, 212, 138, 185, 25] := by decide +kernel
theorem gcm_vec2 : gsealL (zerosL 32) (zerosL 12) [] [] = [83, 15, 138, 251, 199, 69, 54, 185, 169, 99, 180, 241, 196, 203, 115, 139] := by decide +kernel

end Go.Proofs.YtffeekfofbcobaaGreat

namespace Go.Proofs.YtffeekfofbcobaaGreat
open Go.RowKit
set_option linter.unusedVariables false

/-- A box: a cipher, a nonce. -/
def GBox (w : World) (C T : Nat) (key : List UInt8) : Prop := Cph w C T (expL key) ∧ Tab w T
theorem GBox.kept {w w' : World} {C T : Nat} {key : List UInt8} (h : GBox w C T key) (g : w.grownBy w' none) : GBox w' C T key := ⟨Blk.kept h.1 g nofun, h.2.kept g nofun⟩

theorem enc_box (w : World) (C T : Nat) (key text : List UInt8) (h : GBox w C T key) (hk : key.length = 32) (ht : text.length = 16) :
    Calls Tryz.prog 108 #[.pointer (some ⟨C, 0, none⟩), S text] w fun e w' => e = .returned (S (encL key text)) ∧ w.grownBy w' none :=
  code_encT w C T (key.length / 4 + 6) (expL key) text h.1 h.2 ht (by rw [(expL_pre key (Or.inr hk)).1]) (by omega) (by omega)

set_option maxRecDepth 100000 in
set_option maxHeartbeats 1000000 in
theorem code_gblock (w : World) (C T n : Nat) (key nonce : List UInt8) (h : GBox w C T key) (hk : key.length = 32) (hn : nonce.length = 12) (h32 : n < 4294967296) :
    Calls Tryz.prog 109 #[.agg #[.pointer (some ⟨C, 0, none⟩), S nonce], .int .i64 n] w (Grown (S (gblk key nonce n)) w) := by
  obtain ⟨B, hB⟩ : ∃ B, B = w.heap.size := ⟨_, rfl⟩
  obtain ⟨y, hy⟩ : ∃ y, y = w.alloc (.cells #[.pointer (some ⟨C, 0, none⟩), S nonce] 154) := ⟨_, rfl⟩
  have hgy : w.grownBy y none := by rw [hy]; exact grow_alloc (grow_refl w none) _
  have k0 : y.cell? ⟨B, 0, none⟩ = some (.pointer (some ⟨C, 0, none⟩)) := by rw [hy, hB, obj_cell (obj_new w _)]; rfl
  have k1 : y.cell? ⟨B, 1, none⟩ = some (S nonce) := by rw [hy, hB, obj_cell (obj_new w _)]; rfl
  have hyB : B < y.heap.size := by rw [hy, hB]; simp
  have HGB := Lib.hid (h.kept hgy)
  have HGY := Lib.hid hgy
  have HN := Lib.hid hn
  have hV : gblk key nonce n = encL key (nonce ++ bigB n 4) := rfl
  have lb : (nonce ++ bigB n 4).length = 16 := by rw [List.length_append, bigB_length, hn]
  have cv : ∀ W : World, ∃ v W', (convert 9 46 (.string ⟨nonce.toArray⟩)).run Tryz.prog W = .ok v W' ∧ bro W' W.heap.size v nonce ∧ W.grownBy W' none := fun W => to_bro W nonce (by unfold maxLen; omega)
  have A1 : ∀ (W : World) (b : Nat) (v : Value), bro W b v nonce → b ≤ W.heap.size → Calls Tryz.prog 43 #[v, .int .u64 n, .int .i64 4] W (OwnBro W b (nonce ++ bigB n 4)) := fun W b v h1 h2 => bro_appendBig W b v nonce n 4 h1 (by omega) (by omega) (by omega) h2
  have A2 : ∀ W : World, GBox W C T key → Calls Tryz.prog 108 #[.pointer (some ⟨C, 0, none⟩), S (nonce ++ bigB n 4)] W fun e w' => e = .returned (S (gblk key nonce n)) ∧ W.grownBy w' none := fun W hW => by rw [hV]; exact enc_box W C T key _ hW hk lb
  have e1 : IntKind.u64.wrap (n : Int) = (n : Int) := IntWalk.u64_in _ (by omega)
  generalize gblk key nonce n = V at *
  generalize nonce ++ bigB n 4 = X at *
  have HY := Lib.hid hy
  have HB := Lib.hid hB
  clear hy hB hV lb hgy h
  unfold S at *
  go_enter Tryz.func109, Tryz.ntmps109
  go_wp2_with fail
  rw [← HB.out, ← HY.out]
  obtain ⟨v, x, hcv, hbr, hgx⟩ := cv y.drew
  have hgx2 : y.grownBy x none := grow_trans (grow_drew (grow_refl y none)) hgx
  have m0 := hgx2.cell (a := ⟨B, 0, none⟩) k0 nofun
  have HGX := Lib.hid hgx2
  have HBR := Lib.hid (show bro x y.heap.size v nonce from hbr)
  have HSZ := Lib.hid (show y.heap.size ≤ x.heap.size from hgx2.size)
  clear cv hgx hgx2 hbr
  go_region_with
    (first
      | (go_at_call 43; (with_reducible refine (A1 _ _ _ HBR.out HSZ.out).mono ?_); rintro e w7 ⟨t1, rfl, hb1, hB1⟩; have hcs := conv_bro hb1; have n0 := (hB1.cell (p := ⟨B, 0, none⟩) hyB).trans m0; have HG7 := Lib.hid (grow_of_below (r := none) ((grow_below HGX.out _ (Nat.le_refl _) (by simp)).trans hB1)))
      | (go_at_call 108; (with_reducible refine (A2 _ (HGB.out.kept HG7.out)).mono ?_); rintro e w8 ⟨rfl, hg8⟩))
  all_goals
    have HF := grow_trans (grow_trans HGY.out HG7.out) hg8
    go_wp2_with fail
    go_ret
    exact ⟨rfl, HF⟩

end Go.Proofs.YtffeekfofbcobaaGreat

namespace Go.Proofs.YtffeekfofbcobaaGreat
open Go.RowKit
set_option linter.unusedVariables false

theorem Bld.grown {B b : Nat} {l : List UInt8} {w w' : World} (h : Bld B b l w) (g : w.grownBy w' none) : Bld B b l w' := by
  rcases h with ⟨hB, v, hb, ho, hn⟩ | ⟨hB, v, hb, ho, hn⟩
  · exact Or.inl ⟨hB, v, grow_obj g hb nofun, World.ownsRow.kept ho g (by cases v.ownBlock <;> simp), hn⟩
  · exact Or.inr ⟨hB, v, grow_obj g hb nofun, World.ownsRow.kept ho g (by cases v.ownBlock <;> simp), hn⟩

theorem GBox.below {w w' : World} {C T n : Nat} {key : List UInt8} (h : GBox w C T key) (hC : C < n) (hT : T < n) (g : Below n w w') : GBox w' C T key := by
  refine ⟨?_, h.2.below hT g⟩
  unfold Cph Blk
  rw [g.block C hC]
  exact h.1

set_option maxRecDepth 20000 in
set_option maxRecDepth 100000 in
set_option maxHeartbeats 2000000 in
theorem code_gxored (w : World) (C T : Nat) (key nonce s : List UInt8) (h : GBox w C T key) (hk : key.length = 32) (hn : nonce.length = 12) (hs : s.length ≤ 2016) :
    Calls Tryz.prog 103 #[.agg #[.pointer (some ⟨C, 0, none⟩), S nonce], S s] w (Grown (S (gcxL key nonce s)) w) := by
  have hCl := Blk.lt h.1
  have hTl := TabK.lt h.2
  obtain ⟨B, hB⟩ : ∃ B, B = w.heap.size := ⟨_, rfl⟩
  obtain ⟨y, hy⟩ : ∃ y, y = w.alloc (.cells #[.pointer (some ⟨C, 0, none⟩), S nonce] 154) := ⟨_, rfl⟩
  obtain ⟨x, hx⟩ : ∃ x, x = y.alloc (.cells #[.pointer none, .slice none 0 0] 80) := ⟨_, rfl⟩
  have hyB : y.heap.size = B + 1 := by rw [hy, hB]; simp
  have hgx : w.grownBy x none := by rw [hx, hy]; exact grow_alloc (grow_alloc (grow_refl w none) _) _
  have k0 : x.cell? ⟨B, 0, none⟩ = some (.pointer (some ⟨C, 0, none⟩)) := by rw [hx, hy, hB, obj_cell (obj_alloc (obj_new w _))]; rfl
  have k1 : x.cell? ⟨B, 1, none⟩ = some (S nonce) := by rw [hx, hy, hB, obj_cell (obj_alloc (obj_new w _))]; rfl
  have hbl : Bld (B + 1) (B + 1) [] x := by
    have := bld_new y (B + 1) (by omega)
    rw [hyB] at this
    rw [hx]
    exact this
  have hxs : B + 1 ≤ x.heap.size := by rw [hx]; simp; omega
  have HGB := Lib.hid (h.kept hgx)
  have HGX := Lib.hid hgx
  have HK0 := Lib.hid k0
  have HK1 := Lib.hid k1
  have HXS := Lib.hid hxs
  have HBL := Lib.hid hbl
  have HBw : B = w.heap.size := hB
  have HWB := Lib.hid hB
  have HY := Lib.hid hy
  have HX := Lib.hid hx
  have HYB := Lib.hid hyB
  have hrec : gcxL key nonce s = [] ++ gcx key nonce (s.length + 1) 2 s := rfl
  generalize gcxL key nonce s = V at *
  have HR := Lib.hid hrec
  have r2 := rule_ext
  clear hx hy hyB hgx k0 k1 hbl hxs h hB HBw hrec
  unfold S
  go_enter Tryz.func103, Tryz.ntmps103
  go_wp2_with fail
  have hX := HX.out
  rw [HY.out] at hX
  unfold S at hX
  rw [← hX, ← HWB.out]
  clear hX HX HY HYB
  go_loopw [1, 6, 7] (fun vs vn v7 wr => ∃ (f m : Nat) (U out : List UInt8), vn = .int .i64 m ∧ vs = .string ⟨U.toArray⟩ ∧ Hid (V = out ++ gcx key nonce f m U) ∧ Hid (U.length ≤ 16 * f) ∧ out.length + U.length ≤ 2016 ∧ m + U.length ≤ 10000 ∧ Hid (Bld (B + 1) (B + 1) out wr) ∧ Hid (Below (B + 1) x wr)) (fun vs _ _ _ => match vs with | .string b => b.size | _ => 0)
  case atStart => exact ⟨s.length + 1, 2, s, [], rfl, rfl, HR, Lib.hid (by omega), by simpa using hs, by omega, HBL, Lib.hid (Below.refl _ _)⟩
  case round =>
    clear HR HBL
    obtain ⟨f, m, U, out, rfl, rfl, hV, hf, hle, hm, hbl, hB⟩ := hrel
    have hws := Lib.hid (Nat.le_trans HXS.out hB.out.size)
    by_cases hU : U = []
    · subst hU
      rw [gcx_nil, List.append_nil] at hV
      have A9 : ∀ W : World, Bld (B + 1) (B + 1) out W → B + 1 ≤ W.heap.size → Calls Tryz.prog 37 #[.pointer (some ⟨B + 1, 0, none⟩)] W fun e w' => e = .returned (.string ⟨out.toArray⟩) ∧ Below (B + 1) W w' := fun W h1 h2 => Tryz.Builder_String_any (B + 1) (B + 1) out W h1 h2
      go_wp2_with fail
      (with_reducible refine (A9 _ hbl.out hws.out).mono ?_)
      rintro e w9 ⟨rfl, hB9⟩
      have HF := Lib.hid (hB.out.trans hB9)
      clear hB9 A9
      go_wp2_with fail
      go_ret
      exact ⟨by rw [hV.out]; rfl, grow_of_below ((grow_below HGX.out _ (Nat.le_refl _) (by simp)).trans (HF.out.mono (by have := HWB.out; omega)))⟩
    · have q1 : (!U.isEmpty) = true := by simpa using hU
      have q2 : U.isEmpty = false := by simpa using hU
      have hpos : 0 < U.length := List.length_pos_iff.2 hU
      have hb16 := gblk_length key nonce m hk hn
      have hxl := xorL_length U (gblk key nonce m)
      have hdp := Lib.hid (gdrop_part U (gblk key nonce m) hb16)
      obtain ⟨g, rfl⟩ : ∃ g, f = g + 1 := by
        have := hf.out
        exact ⟨f - 1, by omega⟩
      have hstep := Lib.hid (show V = (out ++ xorL U (gblk key nonce m)) ++ gcx key nonce g (m + 1) (U.drop 16) from by
        rw [hV.out, gcx, if_neg hU, List.append_assoc])
      have A1 : ∀ W : World, GBox W C T key → Calls Tryz.prog 109 #[.agg #[.pointer (some ⟨C, 0, none⟩), S nonce], .int .i64 m] W (Grown (S (gblk key nonce m)) W) := fun W hW => code_gblock W C T m key nonce hW hk hn (by omega)
      have A2 : ∀ W : World, Calls Tryz.prog 83 #[S U, S (gblk key nonce m)] W (GrowsTo (S (xorL U (gblk key nonce m))) W) := fun W => wire_xor W U (gblk key nonce m) (by omega) (by omega)
      have A3 : ∀ W : World, Bld (B + 1) (B + 1) out W → B + 1 ≤ W.heap.size → Calls Tryz.prog 35 #[.pointer (some ⟨B + 1, 0, none⟩), S (xorL U (gblk key nonce m))] W fun e w' => e = .returned (.tuple #[.int .i64 (xorL U (gblk key nonce m)).length, .nilIface]) ∧ Bld (B + 1) (B + 1) (out ++ xorL U (gblk key nonce m)) w' ∧ Below (B + 1) W w' := fun W h1 h2 => bld_text (B + 1) (B + 1) out _ W h1 (by rw [hxl]; omega) h2
      have htk : List.take (U.length - (xorL U (gblk key nonce m)).length) (List.drop (xorL U (gblk key nonce m)).length U) = List.drop (xorL U (gblk key nonce m)).length U := List.take_of_length_le (by simp)
      have hlen2 : (xorL U (gblk key nonce m)).length ≤ U.length := by rw [hxl]; omega
      have hsum : (out ++ xorL U (gblk key nonce m)).length + (U.drop (xorL U (gblk key nonce m)).length).length ≤ 2016 := by rw [List.length_append, List.length_drop]; omega
      have hone : 1 ≤ (xorL U (gblk key nonce m)).length := by rw [hxl]; omega
      have c0 := (hB.out.cell (p := ⟨B, 0, none⟩) (Nat.lt_succ_self B)).trans HK0.out
      have c1 := (hB.out.cell (p := ⟨B, 1, none⟩) (Nat.lt_succ_self B)).trans HK1.out
      have hgb := Lib.hid (HGB.out.below (n := B + 1) (by have := HWB.out; omega) (by have := HWB.out; omega) hB.out)
      have HBW := Lib.hid (Nat.lt_succ_self B)
      clear hxl hb16 hV hU
      generalize xorL U (gblk key nonce m) = X at *
      generalize gblk key nonce m = bl at *
      unfold S GrowsTo at *
      go_wp2_with fail
      (with_reducible refine (A1 _ hgb.out).mono ?_)
      rintro e w2 ⟨rfl, hg2⟩
      go_wp2_with fail
      (with_reducible refine (A2 _).mono ?_)
      rintro e w3 ⟨rfl, hg3⟩
      have HG3 := Lib.hid (grow_trans hg2 hg3)
      have HBL3 := Lib.hid (hbl.out.grown HG3.out)
      have HB3 := Lib.hid (hB.out.trans (grow_below HG3.out (B + 1) hws.out (by simp)))
      have hw3 := Lib.hid (Nat.le_trans hws.out HG3.out.size)
      clear hg2 hg3 A1 A2 c0 c1
      go_wp2_with fail
      (with_reducible refine (A3 _ HBL3.out hw3.out).mono ?_)
      rintro e w4 ⟨rfl, hbl4, hB4⟩
      have HBL4 := Lib.hid hbl4
      have HB4 := Lib.hid (HB3.out.trans hB4)
      clear hbl4 hB4 A3
      go_wp2_with fail
      go_roundw
      case rel => exact ⟨g, m + 1, U.drop X.length, out ++ X, by go_num, rfl, Lib.hid (by rw [hdp.out]; exact hstep.out), Lib.hid (by rw [hdp.out, List.length_drop]; have := hf.out; omega), hsum, by rw [List.length_drop]; omega, HBL4, HB4⟩
      case measure => simp [ByteArray.size]; omega

end Go.Proofs.YtffeekfofbcobaaGreat

namespace Go.Proofs.YtffeekfofbcobaaGreat
open Go.RowKit
set_option linter.unusedVariables false

set_option maxRecDepth 100000 in
set_option maxHeartbeats 2000000 in
theorem code_gtag (w : World) (C T : Nat) (key nonce more s : List UInt8) (h : GBox w C T key) (hk : key.length = 32) (hn : nonce.length = 12) (hm : more.length ≤ 2000) (hs : s.length ≤ 2016) :
    Calls Tryz.prog 102 #[.agg #[.pointer (some ⟨C, 0, none⟩), S nonce], S more, S s] w (Grown (S (gtagL key nonce more s)) w) := by
  obtain ⟨B, hB⟩ : ∃ B, B = w.heap.size := ⟨_, rfl⟩
  obtain ⟨y, hy⟩ : ∃ y, y = w.alloc (.cells #[.pointer (some ⟨C, 0, none⟩), S nonce] 154) := ⟨_, rfl⟩
  have hgy : w.grownBy y none := by rw [hy]; exact grow_alloc (grow_refl w none) _
  have k0 : y.cell? ⟨B, 0, none⟩ = some (.pointer (some ⟨C, 0, none⟩)) := by rw [hy, hB, obj_cell (obj_new w _)]; rfl
  have k1 : y.cell? ⟨B, 1, none⟩ = some (S nonce) := by rw [hy, hB, obj_cell (obj_new w _)]; rfl
  have HGB := Lib.hid (h.kept hgy)
  have HGY := Lib.hid hgy
  have hV : gtagL key nonce more s = xorL (hsumL (encL key (zerosL 16)) more s) (gblk key nonce 1) := rfl
  have le := encL_length key (zerosL 16) (Or.inr hk) (by simp [zerosL])
  have lh := hsumL_length (encL key (zerosL 16)) more s
  have lb := gblk_length key nonce 1 hk hn
  have A1 : ∀ W : World, Calls Tryz.prog 26 #[.string ⟨#[0]⟩, .int .i64 16] W (Grown (S (zerosL 16)) W) := fun W => repeat_zero W 16 (by omega)
  have A2 : ∀ W : World, GBox W C T key → Calls Tryz.prog 108 #[.pointer (some ⟨C, 0, none⟩), S (zerosL 16)] W fun e w' => e = .returned (S (encL key (zerosL 16))) ∧ W.grownBy w' none := fun W hW => enc_box W C T key _ hW hk (by simp [zerosL])
  have A3 : ∀ W : World, Calls Tryz.prog 107 #[S (encL key (zerosL 16)), S more, S s] W fun e w' => e = .returned (.tuple #[S (hsumL (encL key (zerosL 16)) more s), .int .i64 0]) ∧ W.grownBy w' none := fun W => code_ghsum W _ more s le (by omega) (by omega)
  have A4 : ∀ W : World, GBox W C T key → Calls Tryz.prog 109 #[.agg #[.pointer (some ⟨C, 0, none⟩), S nonce], .int .i64 1] W (Grown (S (gblk key nonce 1)) W) := fun W hW => code_gblock W C T 1 key nonce hW hk hn (by omega)
  have A5 : ∀ W : World, Calls Tryz.prog 83 #[S (hsumL (encL key (zerosL 16)) more s), S (gblk key nonce 1)] W (GrowsTo (S (gtagL key nonce more s)) W) := fun W => by rw [hV]; exact wire_xor W _ _ (by omega) (by omega)
  generalize gtagL key nonce more s = V at *
  generalize hsumL (encL key (zerosL 16)) more s = H at *
  generalize encL key (zerosL 16) = E at *
  generalize gblk key nonce 1 = bl at *
  generalize zerosL 16 = z at *
  have HY := Lib.hid hy
  have HB := Lib.hid hB
  clear hy hB hV le lh lb hgy h
  unfold S GrowsTo at *
  go_enter Tryz.func102, Tryz.ntmps102
  go_wp2_with fail
  rw [← HB.out, ← HY.out]
  go_region_with
    (first
      | (go_at_call 26; (with_reducible refine (A1 _).mono ?_); rintro e w3 ⟨rfl, hg3⟩; have G3 := grow_drew hg3; have m0 := hg3.cell (a := ⟨B, 0, none⟩) k0 nofun; have m1 := hg3.cell (a := ⟨B, 1, none⟩) k1 nofun; have HG3 := Lib.hid (grow_trans (grow_drew (grow_refl y none)) hg3))
      | (go_at_call 108; (with_reducible refine (A2 _ (HGB.out.kept HG3.out)).mono ?_); rintro e w4 ⟨rfl, hg4⟩; have n0 := hg4.cell (a := ⟨B, 0, none⟩) m0 nofun; have n1 := hg4.cell (a := ⟨B, 1, none⟩) m1 nofun; have HG4 := Lib.hid (grow_trans HG3.out hg4))
      | (go_at_call 107; (with_reducible refine (A3 _).mono ?_); rintro e w5 ⟨rfl, hg5⟩; have o0 := hg5.cell (a := ⟨B, 0, none⟩) n0 nofun; have o1 := hg5.cell (a := ⟨B, 1, none⟩) n1 nofun; have HG5 := Lib.hid (grow_trans HG4.out hg5)))
  all_goals
    clear hg5 k0 k1 m0 m1 n0 n1 HG4 hg4 hg3 A1 A2 A3
    go_wp2_with fail
    (with_reducible refine (A4 _ (HGB.out.kept HG5.out)).mono ?_)
    rintro e w6 ⟨rfl, hg6⟩
    go_wp2_with fail
    (with_reducible refine (A5 _).mono ?_)
    rintro e w7 ⟨rfl, hg7⟩
    have HF := grow_trans (grow_trans (grow_trans HGY.out HG5.out) hg6) hg7
    go_wp2_with fail
    go_ret
    exact ⟨rfl, HF⟩

/-- What the check answers. -/
def gcheckE (key nonce more text : List UInt8) (most : Nat) : Int := if key.length = 32 ∧ nonce.length = 12 then (if more.length ≤ 2000 ∧ text.length ≤ most then 0 else 2) else 1

set_option maxRecDepth 100000 in
set_option maxHeartbeats 1000000 in
theorem code_gcheck (w : World) (key nonce more text : List UInt8) (most : Nat) (hm : most ≤ 100000) :
    Calls Tryz.prog 100 #[S key, S nonce, S more, S text, .int .i64 most] w fun e w' => e = .returned (.int .i64 (gcheckE key nonce more text most)) ∧ w = w' := by
  obtain ⟨V, hV⟩ : ∃ V, V = gcheckE key nonce more text most := ⟨_, rfl⟩
  rw [← hV]
  have HV := Lib.hid hV
  clear hV
  unfold S
  by_cases h1 : key.length = 32
  · have q1 : ((key.length : Int) != 32) = false := by simp; omega
    by_cases h2 : nonce.length = 12
    · have q2 : ((nonce.length : Int) != 12) = false := by simp; omega
      by_cases h3 : more.length ≤ 2000
      · have q3 : decide ((2000 : Int) < (more.length : Int)) = false := by simp; omega
        by_cases h4 : text.length ≤ most
        · have q4 : ¬ most < text.length := by omega
          have HR := Lib.hid (show V = 0 from by rw [HV.out]; unfold gcheckE; rw [if_pos ⟨h1, h2⟩, if_pos ⟨h3, h4⟩])
          clear h1 h2 h3 h4 HV
          go_enter Tryz.func100, Tryz.ntmps100
          go_wp2_with fail
          go_ret
          exact ⟨by rw [HR.out]; rfl, rfl⟩
        · have q4 : most < text.length := by omega
          have HR := Lib.hid (show V = 2 from by rw [HV.out]; unfold gcheckE; rw [if_pos ⟨h1, h2⟩, if_neg (by omega)])
          clear h1 h2 h3 h4 HV
          go_enter Tryz.func100, Tryz.ntmps100
          go_wp2_with fail
          go_ret
          exact ⟨by rw [HR.out]; rfl, rfl⟩
      · have q3 : decide ((2000 : Int) < (more.length : Int)) = true := by simp; omega
        have HR := Lib.hid (show V = 2 from by rw [HV.out]; unfold gcheckE; rw [if_pos ⟨h1, h2⟩, if_neg (by omega)])
        clear h1 h2 h3 HV
        go_enter Tryz.func100, Tryz.ntmps100
        go_wp2_with fail
        go_ret
        exact ⟨by rw [HR.out]; rfl, rfl⟩
    · have q2 : ((nonce.length : Int) != 12) = true := by simp; omega
      have HR := Lib.hid (show V = 1 from by rw [HV.out]; unfold gcheckE; rw [if_neg (by omega)])
      clear h1 h2 HV
      go_enter Tryz.func100, Tryz.ntmps100
      go_wp2_with fail
      go_ret
      exact ⟨by rw [HR.out]; rfl, rfl⟩
  · have q1 : ((key.length : Int) != 32) = true := by simp; omega
    have HR := Lib.hid (show V = 1 from by rw [HV.out]; unfold gcheckE; rw [if_neg (by omega)])
    clear h1 HV
    go_enter Tryz.func100, Tryz.ntmps100
    go_wp2_with fail
    go_ret
    exact ⟨by rw [HR.out]; rfl, rfl⟩


def gnoE (n : Int) : Value := .tuple #[S [], .int .i64 n]
def GSaid (l : List UInt8) (w : World) (e : Ending) (w' : World) : Prop := e = .returned (.tuple #[S l, .int .i64 0]) ∧ w.grownBy w' none

theorem code_gseal_err (w : World) (key nonce more text : List UInt8) (n : Int) (h : gcheckE key nonce more text 2000 = n) (hn : (n == 0) = false) :
    Calls Tryz.prog 99 #[S key, S nonce, S more, S text] w fun e w' => e = .returned (gnoE n) ∧ w = w' := by
  have H := Lib.hid h
  have hn2 : (n != 0) = true := by simpa using hn
  clear h
  unfold S gnoE
  go_enter Tryz.func99, Tryz.ntmps99
  go_wp2_with fail
  refine (code_gcheck w key nonce more text 2000 (by omega)).mono ?_
  rintro e w1 ⟨rfl, rfl⟩
  rw [H.out]
  go_wp2_with fail
  go_ret2
  exact ⟨rfl, rfl⟩

set_option maxRecDepth 100000 in
set_option maxHeartbeats 1000000 in
theorem code_gseal (w : World) (key nonce more text : List UInt8) (hk : key.length = 32) (hn : nonce.length = 12) (hm : more.length ≤ 2000) (ht : text.length ≤ 2000) :
    Calls Tryz.prog 99 #[S key, S nonce, S more, S text] w (GSaid (gsealL key nonce more text) w) := by
  have H := Lib.hid (show gcheckE key nonce more text 2000 = 0 from by unfold gcheckE; rw [if_pos ⟨hk, hn⟩, if_pos ⟨hm, ht⟩])
  have hV : gsealL key nonce more text = gcxL key nonce text ++ gtagL key nonce more (gcxL key nonce text) := rfl
  generalize gsealL key nonce more text = V at *
  have lc := gcxL_length key nonce text hk hn
  have lt := gtagL_length key nonce more (gcxL key nonce text) hk hn
  have A0 : ∀ W : World, Calls Tryz.prog 101 #[S key] W (NewC W key) := fun W => code_anew W key (Or.inr hk)
  have A1 : ∀ (W : World) (C T : Nat), GBox W C T key → Calls Tryz.prog 103 #[.agg #[.pointer (some ⟨C, 0, none⟩), S nonce], S text] W (Grown (S (gcxL key nonce text)) W) := fun W C T hW => code_gxored W C T key nonce text hW hk hn (by omega)
  have A2 : ∀ (W : World) (C T : Nat), GBox W C T key → Calls Tryz.prog 102 #[.agg #[.pointer (some ⟨C, 0, none⟩), S nonce], S more, S (gcxL key nonce text)] W (Grown (S (gtagL key nonce more (gcxL key nonce text))) W) := fun W C T hW => code_gtag W C T key nonce more _ hW hk hn hm (by omega)
  generalize gtagL key nonce more (gcxL key nonce text) = TG at *
  generalize gcxL key nonce text = CT at *
  have HV := Lib.hid hV
  have k1 : CT.length + TG.length ≤ 9223372036854775807 := by omega
  have r1 := rule_app
  clear hV lc lt
  have HC := Lib.hid (fun W : World => code_gcheck W key nonce more text 2000 (by omega))
  clear hk hn hm ht
  unfold S GSaid at *
  go_enter Tryz.func99, Tryz.ntmps99
  go_wp2_with fail
  refine (HC.out _).mono ?_
  rintro e w1 ⟨rfl, rfl⟩
  rw [H.out]
  go_wp2_with fail
  (with_reducible refine (A0 _).mono ?_)
  rintro e w2 ⟨C, T, rfl, hC, hT, hC1, hT1, hg2⟩
  have HGB := Lib.hid (show GBox w2 C T key from ⟨hC, hT⟩)
  clear hC hT A0
  go_wp2_with fail
  obtain ⟨x, hx⟩ : ∃ x, x = w2.alloc (.cells #[.pointer (some ⟨C, 0, none⟩), .string ⟨nonce.toArray⟩] 154) := ⟨_, rfl⟩
  obtain ⟨B, hB⟩ : ∃ B, B = w2.heap.size := ⟨_, rfl⟩
  have hgx : w2.grownBy x none := by rw [hx]; exact grow_alloc (grow_refl w2 none) _
  have k0 : x.cell? ⟨B, 0, none⟩ = some (.pointer (some ⟨C, 0, none⟩)) := by rw [hx, hB, obj_cell (obj_new w2 _)]; rfl
  have k2 : x.cell? ⟨B, 1, none⟩ = some (.string ⟨nonce.toArray⟩) := by rw [hx, hB, obj_cell (obj_new w2 _)]; rfl
  rw [← hx, ← hB]
  have HGX := Lib.hid hgx
  clear hx hB hgx
  (with_reducible refine (A1 _ C T (HGB.out.kept HGX.out)).mono ?_)
  rintro e w3 ⟨rfl, hg3⟩
  have m0 := hg3.cell (a := ⟨B, 0, none⟩) k0 nofun
  have m1 := hg3.cell (a := ⟨B, 1, none⟩) k2 nofun
  have HG3 := Lib.hid (grow_trans HGX.out hg3)
  clear k0 k2 hg3 A1
  go_wp2_with fail
  (with_reducible refine (A2 _ C T (HGB.out.kept HG3.out)).mono ?_)
  rintro e w4 ⟨rfl, hg4⟩
  have HF := grow_trans (grow_trans hg2 HG3.out) hg4
  go_wp2_with fail
  rw [HV.out]
  go_ret2
  exact ⟨rfl, HF⟩

end Go.Proofs.YtffeekfofbcobaaGreat

namespace Go.Proofs.YtffeekfofbcobaaGreat
open Go.RowKit
set_option linter.unusedVariables false

def begK (K : List UInt8) : Nat → List Nat
  | 0 => [1634760805, 857760878, 2036477234, 1797285236, 0, 0, 0, 0, 0, 0, 0, 0, 0, 0, 0, 0]
  | i + 1 => (begK K i).set (4 + i) (leN ((K.drop (4 * i)).take 4))

def begun (K : List UInt8) : List Nat := begK K 12

theorem leN_take4 (l : List UInt8) : leN (l.take 4) < 4294967296 := by
  refine Nat.lt_of_lt_of_le (leN_lt _) ?_
  have : (l.take 4).length ≤ 4 := by rw [List.length_take]; omega
  exact (Nat.pow_le_pow_right (by omega) this : 256 ^ (l.take 4).length ≤ 256 ^ 4)

theorem begK_ok (K : List UInt8) (i : Nat) : Small (begK K i) ∧ (begK K i).length = 16 := by
  induction i with
  | zero =>
    refine ⟨fun j => ?_, rfl⟩
    unfold begK
    by_cases h : j < 16
    · have : ∀ j, j < 16 → List.getD [1634760805, 857760878, 2036477234, 1797285236, 0, 0, 0, 0, 0, 0, 0, 0, 0, 0, 0, 0] j 0 < 4294967296 := by decide
      exact this j h
    · rw [List.getD_eq_getElem?_getD, List.getElem?_eq_none (by simp; omega)]
      decide
  | succ i ih => exact ⟨getD_set_small ih.1 _ _ (leN_take4 _), by rw [begK, List.length_set]; exact ih.2⟩

set_option maxRecDepth 20000 in
set_option maxHeartbeats 2000000 in
theorem code_cbegun (w : World) (k r : List UInt8) (hK : (k ++ r).length = 48) :
    Calls Tryz.prog 84 #[S k, S r] w fun e w' => e = .returned (A16 (begun (k ++ r))) ∧ w.grownBy w' none := by
  have hkr : k.length + r.length ≤ 9223372036854775807 := by rw [List.length_append] at hK; omega
  obtain ⟨K, hKe⟩ : ∃ K, K = k ++ r := ⟨_, rfl⟩
  rw [← hKe] at hK ⊢
  have HK := Lib.hid hK
  have HKE := Lib.hid hKe
  have HF := Lib.hid (show A16 (begun K) = .agg ((begK K 12).map wcell).toArray from rfl)
  generalize hV : A16 (begun K) = V at *
  clear hK hKe hV
  have r1 := rule_app
  have r2 := rule_ext
  unfold S
  go_enter Tryz.func84, Tryz.ntmps84
  go_wp2_with fail
  rw [← HKE.out]
  generalize hx : (w.alloc (.cells #[Value.int IntKind.u32 0, Value.int IntKind.u32 0, Value.int IntKind.u32 0, Value.int IntKind.u32 0, Value.int IntKind.u32 0, Value.int IntKind.u32 0, Value.int IntKind.u32 0, Value.int IntKind.u32 0, Value.int IntKind.u32 0, Value.int IntKind.u32 0, Value.int IntKind.u32 0, Value.int IntKind.u32 0, Value.int IntKind.u32 0, Value.int IntKind.u32 0, Value.int IntKind.u32 0, Value.int IntKind.u32 0] 134)).alloc (.cells #[Value.int IntKind.u32 1634760805, Value.int IntKind.u32 857760878, Value.int IntKind.u32 2036477234, Value.int IntKind.u32 1797285236, Value.int IntKind.u32 0, Value.int IntKind.u32 0, Value.int IntKind.u32 0, Value.int IntKind.u32 0, Value.int IntKind.u32 0, Value.int IntKind.u32 0, Value.int IntKind.u32 0, Value.int IntKind.u32 0, Value.int IntKind.u32 0, Value.int IntKind.u32 0, Value.int IntKind.u32 0, Value.int IntKind.u32 0] 134) = x
  obtain ⟨B, hBe⟩ : ∃ B, B = w.heap.size := ⟨_, rfl⟩
  have hB0 : Blk x B 134 zero16 := by rw [← hx, hBe]; exact obj_alloc (obj_new w _)
  have hB1 : WB x (B + 1) (begK K 0) := by
    have := obj_new (w.alloc (.cells #[Value.int IntKind.u32 0, Value.int IntKind.u32 0, Value.int IntKind.u32 0, Value.int IntKind.u32 0, Value.int IntKind.u32 0, Value.int IntKind.u32 0, Value.int IntKind.u32 0, Value.int IntKind.u32 0, Value.int IntKind.u32 0, Value.int IntKind.u32 0, Value.int IntKind.u32 0, Value.int IntKind.u32 0, Value.int IntKind.u32 0, Value.int IntKind.u32 0, Value.int IntKind.u32 0, Value.int IntKind.u32 0] 134)) (.cells #[Value.int IntKind.u32 1634760805, Value.int IntKind.u32 857760878, Value.int IntKind.u32 2036477234, Value.int IntKind.u32 1797285236, Value.int IntKind.u32 0, Value.int IntKind.u32 0, Value.int IntKind.u32 0, Value.int IntKind.u32 0, Value.int IntKind.u32 0, Value.int IntKind.u32 0, Value.int IntKind.u32 0, Value.int IntKind.u32 0, Value.int IntKind.u32 0, Value.int IntKind.u32 0, Value.int IntKind.u32 0, Value.int IntKind.u32 0] 134)
    rw [show (w.alloc (.cells #[Value.int IntKind.u32 0, Value.int IntKind.u32 0, Value.int IntKind.u32 0, Value.int IntKind.u32 0, Value.int IntKind.u32 0, Value.int IntKind.u32 0, Value.int IntKind.u32 0, Value.int IntKind.u32 0, Value.int IntKind.u32 0, Value.int IntKind.u32 0, Value.int IntKind.u32 0, Value.int IntKind.u32 0, Value.int IntKind.u32 0, Value.int IntKind.u32 0, Value.int IntKind.u32 0, Value.int IntKind.u32 0] 134)).heap.size = B + 1 from by rw [hBe]; simp] at this
    rw [← hx]
    exact this
  have hg0 : w.grownBy x none := by rw [← hx]; exact grow_alloc (grow_alloc (grow_refl w none) _) _
  have hBs : w.heap.size ≤ B := by omega
  rw [← hBe]
  have HZ := Lib.hid hB0
  have HG := Lib.hid hg0
  clear hx hBe hB0 hg0
  go_loopw [6, 7] (fun vi vt wr => ∃ (i : Nat) (T : List UInt8), i ≤ 12 ∧ vi = .int .i64 i ∧ vt = S T ∧ Hid (T = K.drop (4 * i)) ∧ T.length + 4 * i ≤ 48 ∧ 48 ≤ T.length + 4 * i ∧ WB wr (B + 1) (begK K i) ∧ x.grownBy wr (some (B + 1))) (fun vi _ _ => 12 - (intOf vi).toNat)
  case atStart => exact ⟨0, K, by omega, rfl, rfl, by rw [Nat.mul_zero, List.drop_zero]; rfl, by have := HK.out; omega, by have := HK.out; omega, hB1, grow_refl _ _⟩
  case round =>
    clear hB1
    obtain ⟨i, T, hi, rfl, rfl, hT, t1, t2, hB, hg⟩ := hrel
    by_cases hlt : i < 12
    · have l4 : 4 ≤ T.length := by omega
      have lne : T ≠ [] := by intro e; subst e; simp at l4
      have q1 : (!T.isEmpty) = true := by simpa using lne
      have q2 : T.isEmpty = false := by simpa using lne
      have e4 : List.take (T.length - 4) (List.drop 4 T) = List.drop 4 T := List.take_of_length_le (by simp)
      have l8 : (T.take 4).take 8 = T.take 4 := by rw [List.take_take]; rfl
      have ltk : (T.take 4).length ≤ 140737488355328 := by rw [List.length_take]; omega
      have hN := leN_take4 T
      have hcl := hB.cell (4 + i) (by rw [(begK_ok K i).2]; omega)
      have hfr := hB.frozen (4 + i)
      have HN := Lib.hid (show leN (T.take 4) = leN ((K.drop (4 * i)).take 4) from by rw [hT.out])
      have ec : ∀ n : Nat, n < 4294967296 → (n : Int) % 4294967296 = (n : Int) := fun n h => by omega
      unfold S
      go_wp2_with fail
      refine (wire_little _ (T.take 4) ltk).mono ?_
      rintro e w1 ⟨rfl, rfl⟩
      rw [l8]
      have hcv : ((leN (T.take 4) : Nat) : Int) % 4294967296 = ((leN (T.take 4) : Nat) : Int) := by omega
      clear ec l8
      generalize leN (T.take 4) = N at *
      have hst : WB (wr.setCell ⟨B + 1, 4 + i, none⟩ (.int .u32 (N : Int))) (B + 1) (begK K (i + 1)) := by
        rw [begK, ← HN.out]
        exact hB.set (4 + i) N
      have hgs := grow_setCell hg (4 + i) (.int .u32 (N : Int))
      go_wp2_with fail
      go_region
      go_wp2_with fail
      go_roundw
      case rel => exact ⟨i + 1, T.drop 4, by omega, by go_num, rfl, by rw [hT.out, List.drop_drop]; rfl, by rw [List.length_drop]; omega, by rw [List.length_drop]; omega, hst, grow_drew hgs⟩
      case measure => simp [intOf]; omega
    · obtain rfl : i = 12 := by omega
      obtain rfl : T = [] := List.eq_nil_of_length_eq_zero (by omega)
      have hle := (begK_ok K 12).2
      obtain ⟨L, hL⟩ : ∃ L, L = begK K 12 := ⟨_, rfl⟩
      rw [← hL] at hle hB
      have HLL := Lib.hid (show V = .agg (L.map wcell).toArray from by rw [HF.out, hL])
      clear hL HF
      have hB' : Blk wr (B + 1) 134 (L.map wcell) := hB
      have hZ := (HZ.out).kept hg (by simp)
      have hi2 : (Tryz.prog.info? 134).map (·.size) = some (L.map wcell).length := by rw [List.length_map, hle]; exact info16
      have hi3 : (Tryz.prog.info? 134).map (·.size) = some (L.map wcell).toArray.size := by rw [List.size_toArray]; exact hi2
      have hth : wr.there B 0 (L.map wcell).toArray.size := hZ.there _ (by simp [zero16, hle])
      have HI := Lib.hid hi2
      have HI3 := Lib.hid hi3
      have HT := Lib.hid hth
      have HRg := Lib.hid hB'.range
      clear hi2 hi3 hth hZ
      unfold S
      go_upto_region 6 with (fail)
      refine wp_region_lit ?_
      refine wpList_load_mid rfl 134 _ rfl (B + 1) 0 rfl (L.map wcell) _ HRg.out Tryz.underlying134 rfl HI.out ?_
      refine wpList_store_mid rfl 134 _ _ rfl B 0 (L.map wcell).toArray rfl rfl HT.out HI3.out (wcells_one _) ?_
      refine wpList_nil ?_
      have hW := ((HZ.out).kept hg (by simp)).store (L.map wcell) (by simpa [zero16] using hle)
      have hgW : w.grownBy (wr.setCells B 0 (L.map wcell).toArray.toList) none := grow_setCells_new (grow_trans_new HG.out hg (by omega)) B (by omega) _ _
      go_wp2_with fail
      refine bodyPost_ret (v := .agg (L.map wcell).toArray) (results_row Tryz.results84 _ _ B rfl (L.map wcell) _ hW Tryz.underlying134 rfl HI.out) rfl ?_
      exact ⟨by rw [HLL.out], hgW⟩

end Go.Proofs.YtffeekfofbcobaaGreat

namespace Go.Proofs.YtffeekfofbcobaaGreat
open Go.RowKit
set_option linter.unusedVariables false

/-- Words as bytes, four each. -/
def textW (l : List Nat) : List UInt8 := l.flatMap fun n => leB n 4

theorem textW_length (l : List Nat) : (textW l).length = 4 * l.length := by
  induction l with
  | nil => rfl
  | cons n l ih => simp only [textW, List.flatMap_cons, List.length_append, leB_length, List.length_cons] at ih ⊢; omega

theorem textW_snoc (l : List Nat) (n : Nat) : textW (l ++ [n]) = textW l ++ leB n 4 := by simp [textW]

/-- So many words lie there, from an offset on. -/
def WAt (w : World) (B o : Nat) (l : List Nat) : Prop := ∀ i, (h : i < l.length) → w.cell? ⟨B, o + i, none⟩ = some (.int .u32 (l[i] : Nat))

theorem WAt.kept {w w' : World} {B o : Nat} {l : List Nat} {r : Option Nat} (h : WAt w B o l) (g : w.grownBy w' r) (hr : some B ≠ r) : WAt w' B o l := fun i hi => g.cell (a := ⟨B, o + i, none⟩) (h i hi) hr

theorem WAt.below {w w' : World} {B o n : Nat} {l : List Nat} (h : WAt w B o l) (g : Below n w w') (hn : B < n) : WAt w' B o l := fun i hi => (g.cell (p := ⟨B, o + i, none⟩) hn).trans (h i hi)

def Texted (l : List UInt8) (w : World) (e : Ending) (w' : World) : Prop := e = .returned (S l) ∧ Below w.heap.size w w'

set_option maxRecDepth 20000 in
set_option maxHeartbeats 1000000 in
theorem code_text (w : World) (B o cap : Nat) (l : List Nat) (h : WAt w B o l) (hl : l.length ≤ 16) (hs : ∀ n ∈ l, n < 4294967296) (hlt : B < w.heap.size) :
    Calls Tryz.prog 86 #[.slice (some ⟨B, o, none⟩) l.length cap] w (Texted (textW l) w) := by
  have HL := fun j => (textW_length (l.take j))
  have hfin : textW (l.take l.length) = textW l := by rw [List.take_length]
  have HF := Lib.hid hfin
  have HLh := Lib.hid HL
  have HS := Lib.hid hs
  clear hs HL hfin
  go_enter Tryz.func86, Tryz.ntmps86
  go_wp2_with fail
  go_loopw [3, 8] (fun vb vi wr => ∃ j : Nat, j ≤ l.length ∧ vi = .int .i64 j ∧ brow wr w.heap.size vb (textW (l.take j)) ∧ Below w.heap.size w wr) (fun _ vi _ => l.length - (intOf vi).toNat)
  case atStart => exact ⟨0, by omega, rfl, brow_nil _ _, Below.refl _ _⟩
  case round =>
    obtain ⟨j, hj, rfl, hown, HB⟩ := hrel
    by_cases hlj : j < l.length
    · have hc := (h.below HB hlt) j hlj
      have hn := HS.out l[j] (List.getElem_mem hlj)
      have hsn := Lib.hid (show textW (l.take (j + 1)) = textW (l.take j) ++ leB l[j] 4 from by rw [List.take_succ_eq_append_getElem hlj, textW_snoc])
      have hlen : (textW (l.take j)).length + 8 ≤ 140737488355328 := by rw [HLh.out, List.length_take]; omega
      have hbz := HB.size
      have e1 : IntKind.u64.wrap ((l[j] : Nat) : Int) = ((l[j] : Nat) : Int) := IntWalk.u64_in _ (by omega)
      go_wp2_with fail
      refine (wire_appendLittle wr w.heap.size u3 _ l[j] 4 hown (by omega) (by omega) hlen hbz).mono ?_
      rintro e w1 ⟨v', rfl, hown', hB'⟩
      rw [← hsn.out] at hown'
      replace HB := HB.trans hB'
      clear hown hc hB' hbz hlen e1
      go_wp2_with fail
      go_roundw
      case rel => exact ⟨j + 1, by omega, by go_num, hown', HB⟩
      case measure => simp [intOf]; omega
    · obtain rfl : j = l.length := by omega
      have hcv := conv_brow hown
      rw [HF.out] at hcv
      unfold S at hcv
      go_wp2_with fail
      go_ret
      exact ⟨rfl, HB⟩

def checkN (key nonce : List UInt8) (size : Nat) : Int := if key.length = 32 ∧ nonce.length = size then 0 else 1

theorem code_check (w : World) (key nonce : List UInt8) (size : Nat) (hk : key.length ≤ 9223372036854775807) (hn : nonce.length ≤ 9223372036854775807) (hs : size ≤ 100) :
    Calls Tryz.prog 82 #[S key, S nonce, .int .i64 size] w fun e w' => e = .returned (.int .i64 (checkN key nonce size)) ∧ w = w' := by
  obtain ⟨V, hV⟩ : ∃ V, V = checkN key nonce size := ⟨_, rfl⟩
  rw [← hV]
  have HV := Lib.hid hV
  clear hV
  unfold S
  by_cases h1 : key.length = 32
  · by_cases h2 : nonce.length = size
    · have q1 : ((key.length : Int) != 32) = false := by simp; omega
      have q2 : ((nonce.length : Int) != (size : Int)) = false := by simp; omega
      have HR := Lib.hid (show V = 0 from by rw [HV.out]; unfold checkN; rw [if_pos ⟨h1, h2⟩])
      clear h1 h2 HV
      go_enter Tryz.func82, Tryz.ntmps82
      go_wp2_with fail
      go_ret
      exact ⟨by rw [HR.out]; rfl, rfl⟩
    · have q1 : ((key.length : Int) != 32) = false := by simp; omega
      have q2 : ((nonce.length : Int) != (size : Int)) = true := by simp; omega
      have HR := Lib.hid (show V = 1 from by rw [HV.out]; unfold checkN; rw [if_neg (by omega)])
      clear h1 h2 HV
      go_enter Tryz.func82, Tryz.ntmps82
      go_wp2_with fail
      go_ret
      exact ⟨by rw [HR.out]; rfl, rfl⟩
  · have q1 : ((key.length : Int) != 32) = true := by simp; omega
    have HR := Lib.hid (show V = 1 from by rw [HV.out]; unfold checkN; rw [if_neg (by omega)])
    clear h1 HV
    go_enter Tryz.func82, Tryz.ntmps82
    go_wp2_with fail
    go_ret
    exact ⟨by rw [HR.out]; rfl, rfl⟩

end Go.Proofs.YtffeekfofbcobaaGreat

namespace Go.Proofs.YtffeekfofbcobaaGreat
open Go.RowKit
set_option linter.unusedVariables false

/-- Two states, number by number. -/
def addW (a b : List Nat) : List Nat := List.zipWith add32 a b
def stateL (key rest : List UInt8) : List Nat := begun (key ++ rest)
def blockW (s : List Nat) : List Nat := addW (stirred s) s
def blockL (key nonce : List UInt8) (n : Nat) : List UInt8 := textW (blockW (stateL key (leB n 4 ++ nonce)))

theorem blockW_length {s : List Nat} (hs : Small s) (hl : s.length = 16) : (blockW s).length = 16 := by
  have := (roundsK_ok hs hl 10).2
  unfold blockW addW stirred
  rw [List.length_zipWith, this, hl]
  rfl

theorem blockL_length (key nonce : List UInt8) (n : Nat) : (blockL key nonce n).length = 64 := by
  unfold blockL
  rw [textW_length, blockW_length (s := stateL key (leB n 4 ++ nonce)) (begK_ok _ 12).1 (begK_ok _ 12).2]

def noText : Value := .tuple #[S [], .int .i64 1]
def Blocked (l : List UInt8) (w : World) (e : Ending) (w' : World) : Prop := e = .returned (.tuple #[S l, .int .i64 0]) ∧ w.grownBy w' none

theorem code_block_err (w : World) (key nonce : List UInt8) (n : Int) (hk : key.length ≤ 9223372036854775807) (hn : nonce.length ≤ 9223372036854775807) (h : ¬ (key.length = 32 ∧ nonce.length = 12)) :
    Calls Tryz.prog 79 #[S key, S nonce, .int .u32 n] w fun e w' => e = .returned noText ∧ w = w' := by
  have hc : checkN key nonce 12 = 1 := by unfold checkN; rw [if_neg h]
  have HC := Lib.hid hc
  clear hc h
  unfold S
  go_enter Tryz.func79, Tryz.ntmps79
  go_wp2_with fail
  refine (code_check w key nonce 12 hk hn (by omega)).mono ?_
  rintro e w1 ⟨rfl, rfl⟩
  rw [HC.out]
  go_wp2_with fail
  go_ret2
  exact ⟨rfl, rfl⟩

/-- The first k sums. -/
def csumK (v s : List Nat) : Nat → List Nat
  | 0 => v
  | k + 1 => (csumK v s k).set k (add32 (v.getD k 0) (s.getD k 0))

theorem csumK_length (v s : List Nat) (k : Nat) : (csumK v s k).length = v.length := by
  induction k with
  | zero => rfl
  | succ k ih => rw [csumK, List.length_set, ih]

theorem sumK_get (v s : List Nat) (k : Nat) : ∀ j, (csumK v s k)[j]? = if j < k then (v[j]?).map (fun x => add32 x (s.getD j 0)) else v[j]? := by
  induction k with
  | zero => intro j; simp [csumK]
  | succ k ih =>
    intro j
    rw [csumK, List.getElem?_set]
    by_cases e : k = j
    · subst e
      rw [if_pos rfl, csumK_length, if_pos (show k < k + 1 by omega)]
      by_cases q : k < v.length
      · simp [q, List.getD]
      · simp [q]
    · rw [if_neg e, ih]
      by_cases q : j < k
      · rw [if_pos q, if_pos (by omega)]
      · rw [if_neg q, if_neg (by omega)]

theorem csumK_all (v s : List Nat) (h : v.length = s.length) : csumK v s v.length = addW v s := by
  apply List.ext_getElem?
  intro j
  rw [sumK_get, addW, List.getElem?_zipWith]
  by_cases q : j < v.length
  · rw [if_pos q]
    have q2 : j < s.length := by omega
    simp [List.getElem?_eq_getElem q, List.getElem?_eq_getElem q2, List.getD]
  · rw [if_neg q, List.getElem?_eq_none (by omega)]

theorem sumK_next (v s : List Nat) (k : Nat) (hk : k < v.length) : (csumK v s k).getD k 0 = v.getD k 0 := by
  rw [List.getD_eq_getElem?_getD, sumK_get, if_neg (by omega), List.getD_eq_getElem?_getD]

set_option maxRecDepth 20000 in
set_option maxHeartbeats 4000000 in
theorem code_cblock (w : World) (key nonce : List UInt8) (n : Nat) (hk : key.length = 32) (hn : nonce.length = 12) (h32 : n < 4294967296) :
    Calls Tryz.prog 79 #[S key, S nonce, .int .u32 n] w (Blocked (blockL key nonce n) w) := by
  have hc : checkN key nonce 12 = 0 := by unfold checkN; rw [if_pos ⟨hk, hn⟩]
  have HC := Lib.hid hc
  obtain ⟨st, hst⟩ : ∃ s, s = stateL key (leB n 4 ++ nonce) := ⟨_, rfl⟩
  have hbl : blockL key nonce n = textW (addW (stirred st) st) := by rw [hst]; rfl
  have hs1 : Small st := by rw [hst]; exact (begK_ok _ 12).1
  have hs2 : st.length = 16 := by rw [hst]; exact (begK_ok _ 12).2
  obtain ⟨v, hv⟩ : ∃ v, v = stirred st := ⟨_, rfl⟩
  have hv1 : Small v := by rw [hv]; exact (roundsK_ok hs1 hs2 10).1
  have hv2 : v.length = 16 := by rw [hv]; exact (roundsK_ok hs1 hs2 10).2
  rw [hbl, ← hv]
  have HST := Lib.hid (show A16 (begun (key ++ (leB n 4 ++ nonce))) = A16 st from by rw [hst]; rfl)
  have HV := Lib.hid (show A16 (stirred st) = A16 v from by rw [hv])
  have hl48 : (key ++ (leB n 4 ++ nonce)).length = 48 := by simp [leB_length, hk, hn]
  have HL := Lib.hid hl48
  have HB4 := Lib.hid (leB_length n 4)
  have lk : key.length ≤ 32 := by omega
  have ln : nonce.length ≤ 12 := by omega
  clear hc hst hbl hv hl48 hk hn
  have r1 := rule_app
  have e1 : IntKind.u64.wrap (n : Int) = (n : Int) := IntWalk.u64_in _ (by omega)
  unfold S
  go_enter Tryz.func79, Tryz.ntmps79
  go_wp2_with fail
  refine (code_check w key nonce 12 (by omega) (by omega) (by omega)).mono ?_
  rintro e w1 ⟨rfl, rfl⟩
  rw [HC.out]
  go_wp2_with fail
  refine (wire_appendLittle w w.heap.size (.slice none 0 0) [] n 4 (brow_nil _ _) (by omega) (by omega) (by simp) (by omega)).mono ?_
  rintro e w1 ⟨b1, rfl, hown, hB1⟩
  have hcv := conv_brow hown
  rw [List.nil_append] at hcv
  have hlen : (leB n 4).length + nonce.length ≤ 9223372036854775807 := by rw [HB4.out]; omega
  unfold S at hcv
  have hg1 : w.grownBy w1 none := grow_of_below hB1
  clear hown hB1
  go_wp2_with fail
  clear hcv hlen
  refine (code_cbegun w1 key (leB n 4 ++ nonce) HL.out).mono ?_
  rintro e w2 ⟨rfl, hg2⟩
  rw [HST.out]
  have hg := grow_trans hg1 hg2
  clear hg1 hg2
  unfold A16
  have hsn := fun W : World => run_store_new (P := Tryz.prog) W #[Value.int IntKind.u32 0, Value.int IntKind.u32 0, Value.int IntKind.u32 0, Value.int IntKind.u32 0, Value.int IntKind.u32 0, Value.int IntKind.u32 0, Value.int IntKind.u32 0, Value.int IntKind.u32 0, Value.int IntKind.u32 0, Value.int IntKind.u32 0, Value.int IntKind.u32 0, Value.int IntKind.u32 0, Value.int IntKind.u32 0, Value.int IntKind.u32 0, Value.int IntKind.u32 0, Value.int IntKind.u32 0] 134 (st.map wcell) (by simp [hs2]) (wcells_mem st)
  go_upto_region 5 with (fail)
  clear hsn e1
  have hB9 : Blk (w2.alloc (.cells (st.map wcell).toArray 134)) w2.heap.size 134 (st.map wcell) := Blk.new w2 _ _
  have hg9 : w.grownBy (w2.alloc (.cells (st.map wcell).toArray 134)) none := grow_alloc hg _
  have hz9 : w.heap.size ≤ w2.heap.size := hg.size
  generalize w2.alloc (.cells (st.map wcell).toArray 134) = x at *
  generalize w2.heap.size = B at *
  clear hg
  have hi2 : (Tryz.prog.info? 134).map (·.size) = some (st.map wcell).length := by rw [List.length_map, hs2]; exact info16
  have HRg := Lib.hid hB9.range
  have HI := Lib.hid hi2
  clear hi2
  refine wp_region_lit ?_
  refine wpList_load_mid rfl 134 _ rfl B 0 rfl (st.map wcell) _ HRg.out Tryz.underlying134 rfl HI.out ?_
  go_wp2_with fail
  refine (code_stirred x st hs2 hs1).mono ?_
  rintro e x3 ⟨rfl, hg3⟩
  rw [HV.out]
  unfold A16
  have hsv := fun W : World => run_store_new (P := Tryz.prog) W #[Value.int IntKind.u32 0, Value.int IntKind.u32 0, Value.int IntKind.u32 0, Value.int IntKind.u32 0, Value.int IntKind.u32 0, Value.int IntKind.u32 0, Value.int IntKind.u32 0, Value.int IntKind.u32 0, Value.int IntKind.u32 0, Value.int IntKind.u32 0, Value.int IntKind.u32 0, Value.int IntKind.u32 0, Value.int IntKind.u32 0, Value.int IntKind.u32 0, Value.int IntKind.u32 0, Value.int IntKind.u32 0] 134 (v.map wcell) (by simp [hv2]) (wcells_mem v)
  go_upto_region 6 with (fail)
  clear hsv
  have hBs := (hB9.kept hg3 (by simp)).kept (World.grownBy_alloc x3 (.cells (v.map wcell).toArray 134) none) (by simp)
  have hBv : Blk (x3.alloc (.cells (v.map wcell).toArray 134)) x3.heap.size 134 (v.map wcell) := Blk.new x3 _ _
  have hgx : w.grownBy (x3.alloc (.cells (v.map wcell).toArray 134)) none := grow_alloc (grow_trans hg9 hg3) _
  have hzx : w.heap.size ≤ x3.heap.size := (grow_trans hg9 hg3).size
  have hlt9 : B < x3.heap.size := (hB9.kept hg3 (by simp)).lt
  generalize x3.alloc (.cells (v.map wcell).toArray 134) = y at *
  generalize x3.heap.size = C at *
  clear hg3 hg9 hB9 HRg
  have HBs := Lib.hid hBs
  have HBv := Lib.hid hBv
  have HGX := Lib.hid hgx
  clear hBs hBv hgx
  go_wp2_with fail
  go_loopw [28] (fun vi wr => ∃ k : Nat, k ≤ 16 ∧ vi = .int .i64 k ∧ WB wr C (csumK v st k) ∧ y.grownBy wr (some C)) (fun vi _ => 16 - (intOf vi).toNat)
  case atStart => exact ⟨0, by omega, rfl, HBv.out, grow_refl _ _⟩
  case round =>
    obtain ⟨k, hk, rfl, hW, hg⟩ := hrel
    by_cases hlt : k < 16
    · have hS : WB wr B st := (HBs.out).kept hg (by simp; omega)
      have c1 := hW.cell k (by rw [csumK_length]; omega)
      have c2 := hS.cell k (by omega)
      have f1 := hW.frozen k
      rw [sumK_next v st k (by omega)] at c1
      have hnew : WB (wr.setCell ⟨C, k, none⟩ (.int .u32 (add32 (v.getD k 0) (st.getD k 0) : Nat))) C (csumK v st (k + 1)) := hW.set k _
      have hgn : y.grownBy (wr.setCell ⟨C, k, none⟩ (.int .u32 (add32 (v.getD k 0) (st.getD k 0) : Nat))) (some C) := grow_setCell hg k _
      have ha := add32_val (v.getD k 0) (st.getD k 0)
      generalize v.getD k 0 = a at *
      generalize st.getD k 0 = b at *
      generalize add32 a b = c at *
      have HH := Lib.hid (And.intro hnew hgn)
      clear hnew hgn hS hW
      go_wp2_with fail
      go_region
      go_wp2_with fail
      go_roundw
      case rel => exact ⟨k + 1, by omega, by go_num, by first | exact HH.out.1 | (rw [← ha] at HH; exact HH.out.1), by first | exact grow_drew HH.out.2 | (rw [← ha] at HH; exact grow_drew HH.out.2)⟩
      case measure => simp [intOf]; omega
    · obtain rfl : k = 16 := by omega
      have hsum : csumK v st 16 = addW v st := by rw [← hv2]; exact csumK_all v st (by omega)
      rw [hsum] at hW
      have hal : (addW v st).length = 16 := by unfold addW; rw [List.length_zipWith]; omega
      have hsm : ∀ n ∈ addW v st, n < 4294967296 := by
        intro n hn
        unfold addW at hn
        obtain ⟨i, hi, rfl⟩ := List.getElem_of_mem hn
        rw [List.getElem_zipWith]
        exact Nat.mod_lt _ (by omega)
      have hWA : WAt wr C 0 (addW v st) := fun i hi => by
        have := hW.cell i hi
        rw [Nat.zero_add, this, List.getD_eq_getElem?_getD, List.getElem?_eq_getElem hi]
        rfl
      have hgf := grow_trans_new HGX.out hg hzx
      have hClt : C < wr.heap.size := lt_of_obj hW
      have HA := Lib.hid hal
      have HSM := Lib.hid hsm
      clear hsum hal hsm hW hg
      generalize addW v st = L at *
      go_wp2_with fail
      have hT := code_text wr C 0 16 L hWA (by rw [HA.out]; omega) HSM.out hClt
      rw [HA.out] at hT
      refine hT.mono ?_
      rintro e w5 ⟨rfl, hB5⟩
      unfold S
      go_wp2_with fail
      go_ret2
      exact ⟨rfl, grow_trans hgf (grow_of_below hB5)⟩

end Go.Proofs.YtffeekfofbcobaaGreat

namespace Go.Proofs.YtffeekfofbcobaaGreat
open Go.RowKit
set_option linter.unusedVariables false

def next32 (n : Nat) : Nat := (n + 1) % 4294967296

/-- A text xored with the blocks from number n on (so many at most). -/
def chx (key nonce : List UInt8) : Nat → Nat → List UInt8 → List UInt8
  | 0, _, _ => []
  | f + 1, n, s => if s = [] then [] else xorL s (blockL key nonce n) ++ chx key nonce f (next32 n) (s.drop 64)

def chxL (key nonce : List UInt8) (n : Nat) (s : List UInt8) : List UInt8 := chx key nonce (s.length + 1) n s

theorem chx_nil (key nonce : List UInt8) (f n : Nat) : chx key nonce f n [] = [] := by
  cases f <;> simp [chx]

theorem chx_length (key nonce : List UInt8) : ∀ (f n : Nat) (s : List UInt8), s.length ≤ 64 * f → (chx key nonce f n s).length = s.length
  | 0, _, s, h => by
    obtain rfl : s = [] := List.eq_nil_of_length_eq_zero (by omega)
    rfl
  | f + 1, n, s, h => by
    unfold chx
    by_cases e : s = []
    · simp [e]
    · rw [if_neg e, List.length_append, chx_length key nonce f _ (s.drop 64) (by rw [List.length_drop]; omega), xorL_length, blockL_length, List.length_drop]
      omega

theorem chxL_length (key nonce : List UInt8) (n : Nat) (s : List UInt8) : (chxL key nonce n s).length = s.length := chx_length _ _ _ _ _ (by omega)

theorem drop_part (s b : List UInt8) (hb : b.length = 64) : s.drop (xorL s b).length = s.drop 64 := by
  rw [xorL_length, hb]
  rcases Nat.lt_or_ge s.length 64 with h | h
  · rw [Nat.min_eq_left (by omega), List.drop_length, List.drop_of_length_le (by omega)]
  · rw [Nat.min_eq_right h]

set_option maxRecDepth 20000 in
set_option maxHeartbeats 2000000 in
theorem code_cxor (w : World) (key nonce s : List UInt8) (n : Nat) (hk : key.length = 32) (hn : nonce.length = 12) (h32 : n < 4294967296) (hs : s.length ≤ 2000) :
    Calls Tryz.prog 78 #[S key, S nonce, .int .u32 n, S s] w (Blocked (chxL key nonce n s) w) := by
  have hc : checkN key nonce 12 = 0 := by unfold checkN; rw [if_pos ⟨hk, hn⟩]
  have HC := Lib.hid hc
  have HK := Lib.hid hk
  have HN := Lib.hid hn
  have hrec : chxL key nonce n s = [] ++ chx key nonce (s.length + 1) n s := rfl
  generalize chxL key nonce n s = V at *
  have HR := Lib.hid hrec
  have lk : key.length ≤ 32 := by omega
  have ln : nonce.length ≤ 12 := by omega
  clear hc hk hn hrec
  have r1 := rule_app
  have r2 := rule_ext
  have hd : decide (2000 < (s.length : Int)) = false := by simp; omega
  unfold S
  go_enter Tryz.func78, Tryz.ntmps78
  go_wp2_with fail
  refine (code_check w key nonce 12 (by omega) (by omega) (by omega)).mono ?_
  rintro e w1 ⟨rfl, rfl⟩
  rw [HC.out]
  go_wp2_with fail
  go_loopw [2, 3, 11] (fun vn vs vo wr => ∃ (f m : Nat) (T out : List UInt8), vn = .int .u32 m ∧ m < 4294967296 ∧ vs = S T ∧ vo = S out ∧ Hid (V = out ++ chx key nonce f m T) ∧ Hid (T.length ≤ 64 * f) ∧ out.length + T.length ≤ 2000 ∧ w.grownBy wr none) (fun _ vs _ _ => match vs with | .string b => b.size | _ => 0)
  case atStart => exact ⟨s.length + 1, n, s, [], rfl, h32, rfl, rfl, HR.out, by show s.length ≤ 64 * (s.length + 1); omega, by simpa using hs, grow_refl _ _⟩
  case round =>
    clear HR
    obtain ⟨f, m, T, out, rfl, m32, rfl, rfl, hV, hf, hle, hg⟩ := hrel
    by_cases hT : T = []
    · subst hT
      rw [chx_nil, List.append_nil] at hV
      unfold S
      go_wp2_with fail
      go_ret2
      exact ⟨by rw [hV.out]; rfl, hg⟩
    · have q1 : (!T.isEmpty) = true := by simpa using hT
      have q2 : T.isEmpty = false := by simpa using hT
      have hpos : 0 < T.length := List.length_pos_iff.2 hT
      have hb64 := blockL_length key nonce m
      have hxl := xorL_length T (blockL key nonce m)
      have hdp := Lib.hid (drop_part T (blockL key nonce m) hb64)
      obtain ⟨g, rfl⟩ : ∃ g, f = g + 1 := by
        have := hf.out
        exact ⟨f - 1, by omega⟩
      have hstep := Lib.hid (show V = (out ++ xorL T (blockL key nonce m)) ++ chx key nonce g (next32 m) (T.drop 64) from by
        rw [hV.out, chx, if_neg hT, List.append_assoc])
      have hlen2 : (xorL T (blockL key nonce m)).length ≤ T.length := by rw [hxl]; omega
      have hlen1 : 0 < (xorL T (blockL key nonce m)).length := by rw [hxl, hb64]; omega
      have hcat : out.length + (xorL T (blockL key nonce m)).length ≤ 9223372036854775807 := by omega
      have hnx := Lib.hid (show ((m : Int) + 1) % 4294967296 = ((next32 m : Nat) : Int) from by unfold next32; omega)
      have htk : List.take (T.length - (xorL T (blockL key nonce m)).length) (List.drop (xorL T (blockL key nonce m)).length T) = List.drop (xorL T (blockL key nonce m)).length T := List.take_of_length_le (by simp)
      have hbl : (blockL key nonce m).length ≤ 140737488355328 := by omega
      have hsum : (out ++ xorL T (blockL key nonce m)).length + (T.drop (xorL T (blockL key nonce m)).length).length ≤ 2000 := by rw [List.length_append, List.length_drop]; omega
      clear hxl hb64 hV hT
      unfold S
      go_wp2_with fail
      refine (code_cblock _ key nonce m HK.out HN.out m32).mono ?_
      rintro e w2 ⟨rfl, hg2⟩
      unfold S
      go_wp2_with fail
      refine (wire_xor w2 T (blockL key nonce m) (by omega) hbl).mono ?_
      rintro e w3 ⟨rfl, hg3⟩
      have hg' := grow_trans (grow_trans hg hg2) hg3
      clear hg hg2 hg3 hbl
      generalize xorL T (blockL key nonce m) = X at *
      unfold S
      go_wp2_with fail
      rw [hnx.out]
      go_roundw
      case rel => exact ⟨g, next32 m, T.drop X.length, out ++ X, rfl, Nat.mod_lt _ (by omega), rfl, rfl, by rw [hdp.out]; exact hstep, by rw [hdp.out, List.length_drop]; have := hf.out; show T.length - 64 ≤ 64 * g; omega, hsum, hg'⟩
      case measure => simp [ByteArray.size]; omega

end Go.Proofs.YtffeekfofbcobaaGreat

namespace Go.Proofs.YtffeekfofbcobaaGreat
set_option linter.unusedVariables false

/-- So many blocks of the stream. -/
def streamF (key nonce : List UInt8) : Nat → Nat → List UInt8
  | 0, _ => []
  | f + 1, n => blockL key nonce n ++ streamF key nonce f (next32 n)

theorem streamF_length (key nonce : List UInt8) : ∀ (f n : Nat), (streamF key nonce f n).length = 64 * f
  | 0, _ => rfl
  | f + 1, n => by rw [streamF, List.length_append, blockL_length, streamF_length key nonce f]; omega

theorem chx_stream (key nonce : List UInt8) : ∀ (f n : Nat) (s : List UInt8), s.length ≤ 64 * f → chx key nonce f n s = xorL s (streamF key nonce f n)
  | 0, n, s, h => by
    obtain rfl : s = [] := List.eq_nil_of_length_eq_zero (by omega)
    rfl
  | f + 1, n, s, h => by
    unfold chx
    by_cases e : s = []
    · subst e
      simp [xorL_nil_left]
    · rw [if_neg e, streamF, xorL_append, blockL_length, chx_stream key nonce f _ _ (by rw [List.length_drop]; omega)]

def addn32 (n j : Nat) : Nat := (n + j) % 4294967296

theorem streamF_add (key nonce : List UInt8) : ∀ (j f n : Nat), n < 4294967296 → streamF key nonce (j + f) n = streamF key nonce j n ++ streamF key nonce f (addn32 n j)
  | 0, f, n, h => by
    rw [Nat.zero_add, show addn32 n 0 = n from by unfold addn32; omega]
    rfl
  | j + 1, f, n, h => by
    rw [show j + 1 + f = (j + f) + 1 from by omega, streamF, streamF, streamF_add key nonce j f (next32 n) (Nat.mod_lt _ (by omega)), List.append_assoc]
    rw [show addn32 (next32 n) j = addn32 n (j + 1) from by unfold addn32 next32; omega]

/-- However many blocks beyond the text. -/
theorem chxL_stream (key nonce : List UInt8) (f n : Nat) (s : List UInt8) (h : s.length ≤ 64 * f) (h32 : n < 4294967296) : chxL key nonce n s = xorL s (streamF key nonce f n) := by
  unfold chxL
  rw [chx_stream _ _ _ _ _ (by omega)]
  have h1 := streamF_length key nonce f n
  have h2 := streamF_length key nonce (s.length + 1) n
  rcases Nat.le_total f (s.length + 1) with q | q
  · obtain ⟨d, hd⟩ : ∃ d, s.length + 1 = f + d := ⟨s.length + 1 - f, by omega⟩
    rw [hd, streamF_add _ _ _ _ _ h32, xorL_take _ _ _ (by omega)]
  · obtain ⟨d, hd⟩ : ∃ d, f = (s.length + 1) + d := ⟨f - (s.length + 1), by omega⟩
    rw [hd, streamF_add _ _ (s.length + 1) d _ h32, xorL_take _ _ _ (by omega)]

theorem chxL_twice (key nonce : List UInt8) (n : Nat) (s : List UInt8) (h32 : n < 4294967296) : chxL key nonce n (chxL key nonce n s) = s := by
  have hl := chxL_length key nonce n s
  rw [chxL_stream key nonce (s.length + 1) n (chxL key nonce n s) (by omega) h32, chxL_stream key nonce (s.length + 1) n s (by omega) h32]
  exact xorL_twice _ _ (by rw [streamF_length]; omega)

theorem chxL_pair (key nonce : List UInt8) (n : Nat) (s t : List UInt8) (h32 : n < 4294967296) (h : t.length = s.length) : xorL (chxL key nonce n s) (chxL key nonce n t) = xorL s t := by
  rw [chxL_stream key nonce (s.length + 1) n s (by omega) h32, chxL_stream key nonce (s.length + 1) n t (by omega) h32]
  exact xorL_pair _ _ _ (by rw [streamF_length]; omega) (by rw [streamF_length]; omega)

theorem chxL_split (key nonce : List UInt8) (n j : Nat) (a b : List UInt8) (h32 : n < 4294967296) (ha : a.length = 64 * j) : chxL key nonce n (a ++ b) = chxL key nonce n a ++ chxL key nonce (addn32 n j) b := by
  rw [chxL_stream key nonce (j + (b.length + 1)) n (a ++ b) (by rw [List.length_append]; omega) h32, chxL_stream key nonce j n a (by omega) h32,
    chxL_stream key nonce (b.length + 1) (addn32 n j) b (by omega) (Nat.mod_lt _ (by omega)), streamF_add _ _ _ _ _ h32]
  exact xorL_append_left _ _ _ _ (by rw [streamF_length, ha])

theorem xorL_zeros : ∀ (K : List UInt8), xorL (List.replicate K.length 0) K = K
  | [] => rfl
  | k :: K => by
    have := xorL_zeros K
    simp only [xorL, List.length_cons, List.replicate_succ, List.zipWith_cons_cons] at this ⊢
    rw [this, UInt8.zero_xor]

theorem chxL_zeros (key nonce : List UInt8) (n : Nat) (h32 : n < 4294967296) : chxL key nonce n (zerosL 64) = blockL key nonce n := by
  rw [chxL_stream key nonce 1 n _ (by rw [zerosL_length]; omega) h32, streamF, streamF, List.append_nil]
  have := xorL_zeros (blockL key nonce n)
  rw [blockL_length] at this
  exact this

end Go.Proofs.YtffeekfofbcobaaGreat

namespace Go.Proofs.YtffeekfofbcobaaGreat
open Go.RowKit
set_option linter.unusedVariables false

def subL (key nonce : List UInt8) : List UInt8 := textW ((stirred (stateL key nonce)).take 4) ++ textW ((stirred (stateL key nonce)).drop 12)

theorem stirred_length (key nonce : List UInt8) : (stirred (stateL key nonce)).length = 16 := (roundsK_ok (begK_ok _ 12).1 (begK_ok _ 12).2 10).2

theorem subL_length (key nonce : List UInt8) : (subL key nonce).length = 32 := by
  unfold subL
  rw [List.length_append, textW_length, textW_length, List.length_take, List.length_drop, stirred_length]
  rfl

theorem small_mem {l : List Nat} (h : Small l) (n : Nat) (hn : n ∈ l) : n < 4294967296 := by
  obtain ⟨i, hi, rfl⟩ := List.getElem_of_mem hn
  have := h i
  rwa [List.getD_eq_getElem?_getD, List.getElem?_eq_getElem hi] at this

end Go.Proofs.YtffeekfofbcobaaGreat

namespace Go.Proofs.YtffeekfofbcobaaGreat
set_option linter.unusedVariables false

def filledL (s : List UInt8) : List UInt8 := s ++ zerosL ((16 - s.length % 16) % 16)
def sealTagL (key nonce more s : List UInt8) : List UInt8 := tagL ((blockL key nonce 0).take 32) (filledL more ++ filledL s ++ (leB more.length 8 ++ leB s.length 8))
def sealL (key nonce more text : List UInt8) : List UInt8 := chxL key nonce 1 text ++ sealTagL key nonce more (chxL key nonce 1 text)

theorem filledL_length (s : List UInt8) : (filledL s).length ≤ s.length + 15 := by
  unfold filledL
  rw [List.length_append, zerosL_length]
  omega

theorem tagL_length (k t : List UInt8) : (tagL k t).length = 16 := by unfold tagL; rw [List.length_append, leB_length, leB_length]

theorem sealTagL_length (key nonce more s : List UInt8) : (sealTagL key nonce more s).length = 16 := tagL_length _ _

theorem sealL_length (key nonce more text : List UInt8) : (sealL key nonce more text).length = text.length + 16 := by
  unfold sealL
  rw [List.length_append, sealTagL_length, chxL_length]

theorem sealL_take (key nonce more text : List UInt8) : (sealL key nonce more text).take text.length = chxL key nonce 1 text := by
  unfold sealL
  rw [List.take_append_of_le_length (by rw [chxL_length]; omega), List.take_of_length_le (by rw [chxL_length]; omega)]

end Go.Proofs.YtffeekfofbcobaaGreat

namespace Go.Proofs.YtffeekfofbcobaaGreat
open Go.RowKit
set_option linter.unusedVariables false

set_option maxHeartbeats 1000000 in
theorem code_filled (w : World) (s : List UInt8) (hs : s.length ≤ 1000000) : Calls Tryz.prog 81 #[S s] w (Grown (S (filledL s)) w) := by
  have hV : filledL s = s ++ zerosL ((16 - s.length % 16) % 16) := rfl
  generalize filledL s = V at *
  have HV := Lib.hid hV
  clear hV
  obtain ⟨m, hm⟩ : ∃ m, m = (16 - s.length % 16) % 16 := ⟨_, rfl⟩
  rw [← hm] at HV
  have m16 : m < 16 := by omega
  have h1 : -((s.length : Int) % 16) % 16 = (m : Int) := by rw [hm]; omega
  have HM := Lib.hid hm
  clear hm
  have A := fun W : World => repeat_zero W m (by omega)
  have r1 := rule_app
  have r3 := zerosL_length
  have hcat : s.length + m ≤ 9223372036854775807 := by omega
  unfold S at *
  go_enter Tryz.func81, Tryz.ntmps81
  go_wp2_with fail
  refine (A _).mono ?_
  rintro e x1 ⟨rfl, hg⟩
  go_wp2_with fail
  rw [HV.out]
  go_ret
  exact ⟨rfl, hg⟩

set_option maxRecDepth 20000 in
set_option maxHeartbeats 2000000 in
theorem code_etag (w : World) (key nonce more s : List UInt8) (hk : key.length = 32) (hn : nonce.length = 12) (hm : more.length ≤ 100000) (hs : s.length ≤ 100000) :
    Calls Tryz.prog 77 #[S key, S nonce, S more, S s] w (Grown (S (sealTagL key nonce more s)) w) := by
  have hV : sealTagL key nonce more s = tagL ((blockL key nonce 0).take 32) (filledL more ++ filledL s ++ (leB more.length 8 ++ leB s.length 8)) := rfl
  generalize sealTagL key nonce more s = V at *
  have A1 : ∀ W : World, Calls Tryz.prog 79 #[S key, S nonce, .int .u32 0] W (Blocked (blockL key nonce 0) W) := fun W => code_cblock W key nonce 0 hk hn (by omega)
  have lb := blockL_length key nonce 0
  generalize blockL key nonce 0 = bl at *
  have AL1 : ∀ W : World, Calls Tryz.prog 28 #[.slice none 0 0, .int .u64 (more.length : Int), .int .i64 8] W (OwnBytesN W W.heap.size (leB more.length 8)) := fun W => wire_appendLittle W W.heap.size (.slice none 0 0) [] more.length 8 (brow_nil _ _) (by omega) (by omega) (by simp) (Nat.le_refl _)
  have AL2 : ∀ (W : World) (b : Nat) (v : Value), brow W b v (leB more.length 8) → b ≤ W.heap.size → Calls Tryz.prog 28 #[v, .int .u64 (s.length : Int), .int .i64 8] W (OwnBytesN W b (leB more.length 8 ++ leB s.length 8)) := fun W b v h1 h2 => wire_appendLittle W b v (leB more.length 8) s.length 8 h1 (by omega) (by omega) (by rw [leB_length]; omega) h2
  have lz : (leB more.length 8 ++ leB s.length 8).length = 16 := by rw [List.length_append, leB_length, leB_length]
  have A2 := fun W : World => code_filled W more (by omega)
  have A3 := fun W : World => code_filled W s (by omega)
  have lf1 := filledL_length more
  have lf2 := filledL_length s
  have A4 : ∀ W : World, Calls Tryz.prog 80 #[S (bl.take 32), S (filledL more ++ filledL s ++ (leB more.length 8 ++ leB s.length 8))] W (Grown (.tuple #[S V, .int .i64 0]) W) := fun W => by
    rw [hV]
    exact code_ptag W _ _ (by rw [List.length_take]; omega) (by rw [List.length_append, List.length_append]; omega)
  generalize filledL more = fm at *
  generalize filledL s = fs at *
  generalize leB more.length 8 ++ leB s.length 8 = sz at *
  rw [List.append_assoc] at A4
  have w1 : IntKind.u64.wrap (more.length : Int) = (more.length : Int) := IntWalk.u64_in _ (by omega)
  have w2 : IntKind.u64.wrap (s.length : Int) = (s.length : Int) := IntWalk.u64_in _ (by omega)
  have k1 : fm.length + fs.length ≤ 9223372036854775807 := by omega
  have k2 : (fm ++ fs).length + sz.length ≤ 9223372036854775807 := by rw [List.length_append]; omega
  have k4 : fm.length + fs.length + sz.length ≤ 9223372036854775807 := by omega
  have k3 : 32 ≤ bl.length := by omega
  have r1 := rule_app
  have r2 := rule_ext
  unfold S Blocked at *
  clear hV hk hn hm hs lf1 lf2
  go_enter Tryz.func77, Tryz.ntmps77
  go_wp2_with fail
  refine (A1 _).mono ?_
  rintro e x1 ⟨rfl, hg1⟩
  go_wp2_with fail
  refine (AL1 _).mono ?_
  rintro e x2 ⟨t1, rfl, hb1, hB1⟩
  go_wp2_with fail
  refine (AL2 _ _ _ hb1 hB1.size).mono ?_
  rintro e x3 ⟨t2, rfl, hb2, hB2⟩
  have hg3 := grow_trans hg1 (grow_of_below (hB1.trans hB2))
  clear hg1 hB1 hB2 hb1 AL1 AL2 A1
  unfold S
  go_wp2_with fail
  have b0 := hb2.drew
  have c0 := conv_brow b0
  unfold S at c0
  go_region_with (first
    | (go_at_call 81; (with_reducible refine (A2 _).mono ?_); rintro e y1 ⟨rfl, g1⟩; have b1 := b0.keptb g1; have c1 := conv_brow b1; unfold S at c1)
    | (go_at_call 81; (with_reducible refine (A3 _).mono ?_); rintro e y2 ⟨rfl, g2⟩; have b2 := b1.keptb g2; have c2 := conv_brow b2; unfold S at c2)
    | (go_at_call 80; (with_reducible refine (A4 _).mono ?_); rintro e y3 ⟨rfl, g3⟩))
  all_goals
    go_wp2_with fail
    go_ret
    exact ⟨rfl, grow_trans (grow_trans (grow_trans (grow_drew hg3) g1) g2) g3⟩

end Go.Proofs.YtffeekfofbcobaaGreat

namespace Go.Proofs.YtffeekfofbcobaaGreat
open Go.RowKit
set_option linter.unusedVariables false

/-- What the check answers. -/
def checkE (key nonce more text : List UInt8) (most : Nat) : Int := if key.length = 32 ∧ nonce.length = 12 then (if more.length ≤ 2000 ∧ text.length ≤ most then 0 else 2) else 1

set_option maxHeartbeats 1000000 in
theorem code_echeck (w : World) (key nonce more text : List UInt8) (most : Nat) (hm : most ≤ 100000) :
    Calls Tryz.prog 76 #[S key, S nonce, S more, S text, .int .i64 most] w fun e w' => e = .returned (.int .i64 (checkE key nonce more text most)) ∧ w = w' := by
  obtain ⟨V, hV⟩ : ∃ V, V = checkE key nonce more text most := ⟨_, rfl⟩
  rw [← hV]
  have HV := Lib.hid hV
  clear hV
  unfold S
  by_cases h1 : key.length = 32
  · have q1 : ((key.length : Int) != 32) = false := by simp; omega
    by_cases h2 : nonce.length = 12
    · have q2 : ((nonce.length : Int) != 12) = false := by simp; omega
      by_cases h3 : more.length ≤ 2000
      · have q3 : decide ((2000 : Int) < (more.length : Int)) = false := by simp; omega
        by_cases h4 : text.length ≤ most
        · have q4 : ¬ most < text.length := by omega
          have HR := Lib.hid (show V = 0 from by rw [HV.out]; unfold checkE; rw [if_pos ⟨h1, h2⟩, if_pos ⟨h3, h4⟩])
          clear h1 h2 h3 h4 HV
          go_enter Tryz.func76, Tryz.ntmps76
          go_wp2_with fail
          go_ret
          exact ⟨by rw [HR.out]; rfl, rfl⟩
        · have q4 : most < text.length := by omega
          have HR := Lib.hid (show V = 2 from by rw [HV.out]; unfold checkE; rw [if_pos ⟨h1, h2⟩, if_neg (by omega)])
          clear h1 h2 h3 h4 HV
          go_enter Tryz.func76, Tryz.ntmps76
          go_wp2_with fail
          go_ret
          exact ⟨by rw [HR.out]; rfl, rfl⟩
      · have q3 : decide ((2000 : Int) < (more.length : Int)) = true := by simp; omega
        have HR := Lib.hid (show V = 2 from by rw [HV.out]; unfold checkE; rw [if_pos ⟨h1, h2⟩, if_neg (by omega)])
        clear h1 h2 h3 HV
        go_enter Tryz.func76, Tryz.ntmps76
        go_wp2_with fail
        go_ret
        exact ⟨by rw [HR.out]; rfl, rfl⟩
    · have q2 : ((nonce.length : Int) != 12) = true := by simp; omega
      have HR := Lib.hid (show V = 1 from by rw [HV.out]; unfold checkE; rw [if_neg (by omega)])
      clear h1 h2 HV
      go_enter Tryz.func76, Tryz.ntmps76
      go_wp2_with fail
      go_ret
      exact ⟨by rw [HR.out]; rfl, rfl⟩
  · have q1 : ((key.length : Int) != 32) = true := by simp; omega
    have HR := Lib.hid (show V = 1 from by rw [HV.out]; unfold checkE; rw [if_neg (by omega)])
    clear h1 HV
    go_enter Tryz.func76, Tryz.ntmps76
    go_wp2_with fail
    go_ret
    exact ⟨by rw [HR.out]; rfl, rfl⟩

def noTextE (n : Int) : Value := .tuple #[S [], .int .i64 n]

theorem code_seal_err (w : World) (key nonce more text : List UInt8) (n : Int) (h : checkE key nonce more text 2000 = n) (hn : (n == 0) = false) :
    Calls Tryz.prog 75 #[S key, S nonce, S more, S text] w fun e w' => e = .returned (noTextE n) ∧ w = w' := by
  have H := Lib.hid h
  have hn2 : (n != 0) = true := by simpa using hn
  clear h
  unfold S noTextE
  go_enter Tryz.func75, Tryz.ntmps75
  go_wp2_with fail
  refine (code_echeck w key nonce more text 2000 (by omega)).mono ?_
  rintro e w1 ⟨rfl, rfl⟩
  rw [H.out]
  go_wp2_with fail
  go_ret2
  exact ⟨rfl, rfl⟩

set_option maxHeartbeats 1000000 in
theorem code_seal (w : World) (key nonce more text : List UInt8) (hk : key.length = 32) (hn : nonce.length = 12) (hm : more.length ≤ 2000) (ht : text.length ≤ 2000) :
    Calls Tryz.prog 75 #[S key, S nonce, S more, S text] w (Blocked (sealL key nonce more text) w) := by
  have H := Lib.hid (show checkE key nonce more text 2000 = 0 from by unfold checkE; rw [if_pos ⟨hk, hn⟩, if_pos ⟨hm, ht⟩])
  have hV : sealL key nonce more text = chxL key nonce 1 text ++ sealTagL key nonce more (chxL key nonce 1 text) := rfl
  generalize sealL key nonce more text = V at *
  have A1 : ∀ W : World, Calls Tryz.prog 78 #[S key, S nonce, .int .u32 1, S text] W (Blocked (chxL key nonce 1 text) W) := fun W => code_cxor W key nonce text 1 hk hn (by omega) ht
  have lc := chxL_length key nonce 1 text
  have A2 : ∀ W : World, Calls Tryz.prog 77 #[S key, S nonce, S more, S (chxL key nonce 1 text)] W (Grown (S (sealTagL key nonce more (chxL key nonce 1 text))) W) := fun W => code_etag W key nonce more _ hk hn (by omega) (by omega)
  have lt := sealTagL_length key nonce more (chxL key nonce 1 text)
  generalize sealTagL key nonce more (chxL key nonce 1 text) = T at *
  generalize chxL key nonce 1 text = C at *
  have HV := Lib.hid hV
  have k1 : C.length + T.length ≤ 9223372036854775807 := by omega
  have r1 := rule_app
  clear hV hk hn hm lc lt
  unfold S Blocked at *
  go_enter Tryz.func75, Tryz.ntmps75
  go_wp2_with fail
  refine (code_echeck w key nonce more text 2000 (by omega)).mono ?_
  rintro e w1 ⟨rfl, rfl⟩
  rw [H.out]
  go_wp2_with fail
  refine (A1 _).mono ?_
  rintro e w2 ⟨rfl, hg2⟩
  unfold S
  go_wp2_with fail
  refine (A2 _).mono ?_
  rintro e w3 ⟨rfl, hg3⟩
  go_wp2_with fail
  rw [HV.out]
  go_ret2
  exact ⟨rfl, grow_trans hg2 hg3⟩

/-- Opened: what is no box. -/
theorem code_open_err (w : World) (key nonce more text : List UInt8) (n : Int) (h : checkE key nonce more text 2016 = n) (hn : (n == 0) = false) :
    Calls Tryz.prog 74 #[S key, S nonce, S more, S text] w fun e w' => e = .returned (noTextE n) ∧ w = w' := by
  have H := Lib.hid h
  have hn2 : (n != 0) = true := by simpa using hn
  clear h
  unfold S noTextE
  go_enter Tryz.func74, Tryz.ntmps74
  go_wp2_with fail
  refine (code_echeck w key nonce more text 2016 (by omega)).mono ?_
  rintro e w1 ⟨rfl, rfl⟩
  rw [H.out]
  go_wp2_with fail
  go_ret2
  exact ⟨rfl, rfl⟩

theorem code_open_short (w : World) (key nonce more text : List UInt8) (hk : key.length = 32) (hn : nonce.length = 12) (hm : more.length ≤ 2000) (ht : text.length < 16) :
    Calls Tryz.prog 74 #[S key, S nonce, S more, S text] w fun e w' => e = .returned (noTextE 4) ∧ w = w' := by
  have H := Lib.hid (show checkE key nonce more text 2016 = 0 from by unfold checkE; rw [if_pos ⟨hk, hn⟩, if_pos ⟨hm, by omega⟩])
  have q : (text.length : Int) < 16 := by omega
  clear hk hn hm ht
  unfold S noTextE
  go_enter Tryz.func74, Tryz.ntmps74
  go_wp2_with fail
  refine (code_echeck w key nonce more text 2016 (by omega)).mono ?_
  rintro e w1 ⟨rfl, rfl⟩
  rw [H.out]
  go_wp2_with fail
  go_ret2
  exact ⟨rfl, rfl⟩

/-- Opened: a box. -/
theorem code_open (w : World) (key nonce more c : List UInt8) (hk : key.length = 32) (hn : nonce.length = 12) (hm : more.length ≤ 2000) (hc : c.length ≤ 2000) :
    Calls Tryz.prog 74 #[S key, S nonce, S more, S (c ++ sealTagL key nonce more c)] w (Blocked (chxL key nonce 1 c) w) := by
  have lt := sealTagL_length key nonce more c
  have H := Lib.hid (show checkE key nonce more (c ++ sealTagL key nonce more c) 2016 = 0 from by unfold checkE; rw [if_pos ⟨hk, hn⟩, if_pos ⟨hm, by rw [List.length_append]; omega⟩])
  have A1 : ∀ W : World, Calls Tryz.prog 78 #[S key, S nonce, .int .u32 1, S c] W (Blocked (chxL key nonce 1 c) W) := fun W => code_cxor W key nonce c 1 hk hn (by omega) hc
  have A2 : ∀ W : World, Calls Tryz.prog 77 #[S key, S nonce, S more, S c] W (Grown (S (sealTagL key nonce more c)) W) := fun W => code_etag W key nonce more _ hk hn (by omega) (by omega)
  generalize sealTagL key nonce more c = T at *
  generalize chxL key nonce 1 c = C at *
  obtain ⟨U, hU⟩ : ∃ U, U = c ++ T := ⟨_, rfl⟩
  rw [← hU] at H ⊢
  have lU : U.length = c.length + 16 := by rw [hU, List.length_append, lt]
  have tU : U.take c.length = c := by rw [hU, List.take_left]
  have n1 : ¬ ((U.length : Int) < 16) := by omega
  have e1 : ((U.length : Int) - 16) = (c.length : Int) := by omega
  have e2 : (0 : Int) ≤ (c.length : Int) := by omega
  have e3 : (c.length : Int) ≤ (U.length : Int) := by omega
  have r1 := rule_app
  have r2 := rule_ext
  have k1 : c.length + T.length ≤ 9223372036854775807 := by omega
  have HU := Lib.hid hU
  have q : (c ++ T == U) = true := beq_iff_eq.mpr hU.symm
  clear hU hk hn hm lt lU hc
  unfold S Blocked at *
  go_enter Tryz.func74, Tryz.ntmps74
  go_wp2_with fail
  refine (code_echeck w key nonce more U 2016 (by omega)).mono ?_
  rintro e w1 ⟨rfl, rfl⟩
  rw [H.out]
  go_wp2_with fail
  refine (A2 _).mono ?_
  rintro e w2 ⟨rfl, hg2⟩
  go_wp2_with fail
  refine (A1 _).mono ?_
  rintro e w3 ⟨rfl, hg3⟩
  unfold S
  go_wp2_with fail
  go_ret2
  exact ⟨rfl, grow_trans hg2 hg3⟩

end Go.Proofs.YtffeekfofbcobaaGreat

namespace Go.Proofs.YtffeekfofbcobaaGreat
open Go.RowKit
set_option linter.unusedVariables false

theorem code_gopen_err (w : World) (key nonce more text : List UInt8) (n : Int) (h : gcheckE key nonce more text 2016 = n) (hn : (n == 0) = false) :
    Calls Tryz.prog 98 #[S key, S nonce, S more, S text] w fun e w' => e = .returned (gnoE n) ∧ w = w' := by
  have H := Lib.hid h
  have hn2 : (n != 0) = true := by simpa using hn
  clear h
  unfold S gnoE
  go_enter Tryz.func98, Tryz.ntmps98
  go_wp2_with fail
  refine (code_gcheck w key nonce more text 2016 (by omega)).mono ?_
  rintro e w1 ⟨rfl, rfl⟩
  rw [H.out]
  go_wp2_with fail
  go_ret2
  exact ⟨rfl, rfl⟩

theorem code_gopen_short (w : World) (key nonce more text : List UInt8) (hk : key.length = 32) (hn : nonce.length = 12) (hm : more.length ≤ 2000) (ht : text.length < 16) :
    Calls Tryz.prog 98 #[S key, S nonce, S more, S text] w fun e w' => e = .returned (gnoE 4) ∧ w = w' := by
  have H := Lib.hid (show gcheckE key nonce more text 2016 = 0 from by unfold gcheckE; rw [if_pos ⟨hk, hn⟩, if_pos ⟨hm, by omega⟩])
  have q : (text.length : Int) < 16 := by omega
  clear hk hn hm ht
  unfold S gnoE
  go_enter Tryz.func98, Tryz.ntmps98
  go_wp2_with fail
  refine (code_gcheck w key nonce more text 2016 (by omega)).mono ?_
  rintro e w1 ⟨rfl, rfl⟩
  rw [H.out]
  go_wp2_with fail
  go_ret2
  exact ⟨rfl, rfl⟩

set_option maxRecDepth 100000 in
set_option maxHeartbeats 1000000 in
theorem code_gopen (w : World) (key nonce more c : List UInt8) (hk : key.length = 32) (hn : nonce.length = 12) (hm : more.length ≤ 2000) (hc : c.length ≤ 2000) :
    Calls Tryz.prog 98 #[S key, S nonce, S more, S (c ++ gtagL key nonce more c)] w (GSaid (gcxL key nonce c) w) := by
  have lt := gtagL_length key nonce more c hk hn
  have H := Lib.hid (show gcheckE key nonce more (c ++ gtagL key nonce more c) 2016 = 0 from by unfold gcheckE; rw [if_pos ⟨hk, hn⟩, if_pos ⟨hm, by rw [List.length_append]; omega⟩])
  have A0 : ∀ W : World, Calls Tryz.prog 101 #[S key] W (NewC W key) := fun W => code_anew W key (Or.inr hk)
  have A1 : ∀ (W : World) (C T : Nat), GBox W C T key → Calls Tryz.prog 103 #[.agg #[.pointer (some ⟨C, 0, none⟩), S nonce], S c] W (Grown (S (gcxL key nonce c)) W) := fun W C T hW => code_gxored W C T key nonce c hW hk hn (by omega)
  have A2 : ∀ (W : World) (C T : Nat), GBox W C T key → Calls Tryz.prog 102 #[.agg #[.pointer (some ⟨C, 0, none⟩), S nonce], S more, S c] W (Grown (S (gtagL key nonce more c)) W) := fun W C T hW => code_gtag W C T key nonce more _ hW hk hn hm (by omega)
  generalize gtagL key nonce more c = TG at *
  generalize gcxL key nonce c = CT at *
  obtain ⟨U, hU⟩ : ∃ U, U = c ++ TG := ⟨_, rfl⟩
  rw [← hU] at H ⊢
  have lU : U.length = c.length + 16 := by rw [hU, List.length_append, lt]
  have tU : U.take c.length = c := by rw [hU, List.take_left]
  have dU : (U.drop c.length).take (U.length - c.length) = TG := by rw [hU, List.drop_left, List.take_of_length_le (by rw [List.length_append]; omega)]
  have n1 : ¬ ((U.length : Int) < 16) := by omega
  have e1 : ((U.length : Int) - 16) = (c.length : Int) := by omega
  have e2 : (0 : Int) ≤ (c.length : Int) := by omega
  have e3 : (c.length : Int) ≤ (U.length : Int) := by omega
  have e4 : IntKind.i64.wrap (c.length : Int) = (c.length : Int) := IntWalk.i64_in _ (by omega)
  have r2 := rule_ext
  have HC := Lib.hid (fun W : World => code_gcheck W key nonce more U 2016 (by omega))
  clear hU hk hn hm lt lU hc
  unfold S GSaid at *
  go_enter Tryz.func98, Tryz.ntmps98
  go_wp2_with fail
  refine (HC.out _).mono ?_
  rintro e w1 ⟨rfl, rfl⟩
  rw [H.out]
  go_wp2_with fail
  (with_reducible refine (A0 _).mono ?_)
  rintro e w2 ⟨C, T, rfl, hC, hT, hC1, hT1, hg2⟩
  have HGB := Lib.hid (show GBox w2 C T key from ⟨hC, hT⟩)
  clear hC hT A0
  go_wp2_with fail
  obtain ⟨x, hx⟩ : ∃ x, x = w2.alloc (.cells #[.pointer (some ⟨C, 0, none⟩), .string ⟨nonce.toArray⟩] 154) := ⟨_, rfl⟩
  obtain ⟨B, hB⟩ : ∃ B, B = w2.heap.size := ⟨_, rfl⟩
  have hgx : w2.grownBy x none := by rw [hx]; exact grow_alloc (grow_refl w2 none) _
  have k0 : x.cell? ⟨B, 0, none⟩ = some (.pointer (some ⟨C, 0, none⟩)) := by rw [hx, hB, obj_cell (obj_new w2 _)]; rfl
  have k2 : x.cell? ⟨B, 1, none⟩ = some (.string ⟨nonce.toArray⟩) := by rw [hx, hB, obj_cell (obj_new w2 _)]; rfl
  rw [← hx, ← hB]
  have HGX := Lib.hid hgx
  clear hx hB hgx
  go_quiet (fail)
  go_wp2_with fail
  (with_reducible refine (A2 _ C T (HGB.out.kept (grow_drewN HGX.out _))).mono ?_)
  rintro e w3 ⟨rfl, hg3⟩
  have m0 := hg3.cell (a := ⟨B, 0, none⟩) k0 nofun
  have m1 := hg3.cell (a := ⟨B, 1, none⟩) k2 nofun
  have HG3 := Lib.hid (grow_trans (grow_drewN HGX.out _) hg3)
  clear k0 k2 hg3 A2
  go_wp2_with fail
  (with_reducible refine (A1 _ C T (HGB.out.kept HG3.out)).mono ?_)
  rintro e w4 ⟨rfl, hg4⟩
  have HF := grow_trans (grow_trans hg2 HG3.out) hg4
  go_wp2_with fail
  go_ret2
  exact ⟨rfl, HF⟩

end Go.Proofs.YtffeekfofbcobaaGreat

namespace Go.Proofs.YtffeekfofbcobaaGreat
open Go.RowKit
set_option linter.unusedVariables false

set_option maxRecDepth 100000 in
set_option maxHeartbeats 2000000 in
theorem stSeal1_err (w : World) (b : Nat) (hash chain key text a : List UInt8) (n : Nat) (c : Int) (hc : (c == 0) = false) (h : NSt w b 1 hash chain key n) (hk : key.length = 32) (hn : n < 18446744073709551000)
    (C : ∀ W : World, Calls Tryz.prog 73 #[.agg #[], S key, S (nonL 1 n), S hash, S text] W (Grown (.tuple #[S a, .int .i64 c]) W)) :
    Calls Tryz.prog 8 #[.pointer (some ⟨b, 0, none⟩), S text] w (Grown (.tuple #[S a, .int .i64 c]) w) := by
  have AT := thrSeal1_err w b hash chain key text a n c hc h hk hn C
  obtain ⟨c0, c1, c2, c3, c4⟩ := h.cells
  rw [suV_1] at c0
  have NA := nil_MBSeal
  clear C c1 c2 c3 c4 h hk
  unfold S at *
  go_enter Tryz.func8, Tryz.ntmps8
  go_wp2_with fail
  (with_reducible refine AT.mono ?_)
  rintro e x ⟨rfl, hg⟩
  go_wp2_with fail
  go_ret2
  exact ⟨rfl, hg⟩

set_option maxRecDepth 100000 in
set_option maxHeartbeats 2000000 in
theorem stSeal1_ok (w : World) (b : Nat) (hash chain key text a : List UInt8) (n : Nat) (h : NSt w b 1 hash chain key n) (hk : key.length = 32) (hh : hash.length ≤ 32) (hn : n < 18446744073709551000) (ht : a.length ≤ 9223372036854774000)
    (C : ∀ W : World, Calls Tryz.prog 73 #[.agg #[], S key, S (nonL 1 n), S hash, S text] W (Grown (.tuple #[S a, .int .i64 0]) W)) :
    Calls Tryz.prog 8 #[.pointer (some ⟨b, 0, none⟩), S text] w (fun e w' => e = .returned (.tuple #[S a, .int .i64 0]) ∧ NSt w' b 1 (hashM 1 (hash ++ a)) chain key (n + 1) ∧ w.grownBy w' (some b)) := by
  have AT := thrSeal1_ok w b hash chain key text a n h hk hn C
  obtain ⟨c0, c1, c2, c3, c4⟩ := h.cells
  rw [suV_1] at c0
  have NA := nil_MBSeal
  have AM := fun (W : World) (hW : NSt W b 1 hash chain key (n + 1)) => code_mixhash1 W b hash chain key a (n + 1) hW hh ht
  generalize hashM 1 (hash ++ a) = V at *
  clear C c1 c2 c3 c4 h hk hh ht
  unfold S at *
  go_enter Tryz.func8, Tryz.ntmps8
  go_wp2_with fail
  (with_reducible refine AT.mono ?_)
  rintro e x ⟨rfl, hs, hg⟩
  have AM2 := AM x hs
  have HG := Lib.hid hg
  clear AM hs hg AT
  go_wp2_with fail
  (with_reducible refine AM2.mono ?_)
  rintro e x2 ⟨rfl, hs2, hg2⟩
  have HG2 := Lib.hid (grow_trans HG.out hg2)
  have HS := Lib.hid hs2
  clear hs2 hg2 AM2
  go_wp2_with fail
  go_ret2
  exact ⟨rfl, HS.out, HG2.out⟩

set_option maxRecDepth 100000 in
set_option maxHeartbeats 2000000 in
theorem stSeal2_err (w : World) (b : Nat) (hash chain key text a : List UInt8) (n : Nat) (c : Int) (hc : (c == 0) = false) (h : NSt w b 2 hash chain key n) (hk : key.length = 32) (hn : n < 18446744073709551000)
    (C : ∀ W : World, Calls Tryz.prog 97 #[.agg #[], S key, S (nonL 2 n), S hash, S text] W (Grown (.tuple #[S a, .int .i64 c]) W)) :
    Calls Tryz.prog 8 #[.pointer (some ⟨b, 0, none⟩), S text] w (Grown (.tuple #[S a, .int .i64 c]) w) := by
  have AT := thrSeal2_err w b hash chain key text a n c hc h hk hn C
  obtain ⟨c0, c1, c2, c3, c4⟩ := h.cells
  rw [suV_2] at c0
  have NA := nil_MSSeal
  clear C c1 c2 c3 c4 h hk
  unfold S at *
  go_enter Tryz.func8, Tryz.ntmps8
  go_wp2_with fail
  (with_reducible refine AT.mono ?_)
  rintro e x ⟨rfl, hg⟩
  go_wp2_with fail
  go_ret2
  exact ⟨rfl, hg⟩

set_option maxRecDepth 100000 in
set_option maxHeartbeats 2000000 in
theorem stSeal2_ok (w : World) (b : Nat) (hash chain key text a : List UInt8) (n : Nat) (h : NSt w b 2 hash chain key n) (hk : key.length = 32) (hh : hash.length ≤ 32) (hn : n < 18446744073709551000) (ht : a.length ≤ 9223372036854774000)
    (C : ∀ W : World, Calls Tryz.prog 97 #[.agg #[], S key, S (nonL 2 n), S hash, S text] W (Grown (.tuple #[S a, .int .i64 0]) W)) :
    Calls Tryz.prog 8 #[.pointer (some ⟨b, 0, none⟩), S text] w (fun e w' => e = .returned (.tuple #[S a, .int .i64 0]) ∧ NSt w' b 2 (hashM 2 (hash ++ a)) chain key (n + 1) ∧ w.grownBy w' (some b)) := by
  have AT := thrSeal2_ok w b hash chain key text a n h hk hn C
  obtain ⟨c0, c1, c2, c3, c4⟩ := h.cells
  rw [suV_2] at c0
  have NA := nil_MSSeal
  have AM := fun (W : World) (hW : NSt W b 2 hash chain key (n + 1)) => code_mixhash2 W b hash chain key a (n + 1) hW hh ht
  generalize hashM 2 (hash ++ a) = V at *
  clear C c1 c2 c3 c4 h hk hh ht
  unfold S at *
  go_enter Tryz.func8, Tryz.ntmps8
  go_wp2_with fail
  (with_reducible refine AT.mono ?_)
  rintro e x ⟨rfl, hs, hg⟩
  have AM2 := AM x hs
  have HG := Lib.hid hg
  clear AM hs hg AT
  go_wp2_with fail
  (with_reducible refine AM2.mono ?_)
  rintro e x2 ⟨rfl, hs2, hg2⟩
  have HG2 := Lib.hid (grow_trans HG.out hg2)
  have HS := Lib.hid hs2
  clear hs2 hg2 AM2
  go_wp2_with fail
  go_ret2
  exact ⟨rfl, HS.out, HG2.out⟩

set_option maxRecDepth 100000 in
set_option maxHeartbeats 2000000 in
theorem stOpen1_err (w : World) (b : Nat) (hash chain key text a : List UInt8) (n : Nat) (c : Int) (hc : (c == 0) = false) (h : NSt w b 1 hash chain key n) (hk : key.length = 32) (hn : n < 18446744073709551000)
    (C : ∀ W : World, Calls Tryz.prog 72 #[.agg #[], S key, S (nonL 1 n), S hash, S text] W (Grown (.tuple #[S a, .int .i64 c]) W)) :
    Calls Tryz.prog 9 #[.pointer (some ⟨b, 0, none⟩), S text] w (Grown (.tuple #[S a, .int .i64 c]) w) := by
  have AT := thrOpen1_err w b hash chain key text a n c hc h hk hn C
  obtain ⟨c0, c1, c2, c3, c4⟩ := h.cells
  rw [suV_1] at c0
  have NA := nil_MBOpen
  clear C c1 c2 c3 c4 h hk
  unfold S at *
  go_enter Tryz.func9, Tryz.ntmps9
  go_wp2_with fail
  (with_reducible refine AT.mono ?_)
  rintro e x ⟨rfl, hg⟩
  go_wp2_with fail
  go_ret2
  exact ⟨rfl, hg⟩

set_option maxRecDepth 100000 in
set_option maxHeartbeats 2000000 in
theorem stOpen1_ok (w : World) (b : Nat) (hash chain key text a : List UInt8) (n : Nat) (h : NSt w b 1 hash chain key n) (hk : key.length = 32) (hh : hash.length ≤ 32) (hn : n < 18446744073709551000) (ht : text.length ≤ 9223372036854774000)
    (C : ∀ W : World, Calls Tryz.prog 72 #[.agg #[], S key, S (nonL 1 n), S hash, S text] W (Grown (.tuple #[S a, .int .i64 0]) W)) :
    Calls Tryz.prog 9 #[.pointer (some ⟨b, 0, none⟩), S text] w (fun e w' => e = .returned (.tuple #[S a, .int .i64 0]) ∧ NSt w' b 1 (hashM 1 (hash ++ text)) chain key (n + 1) ∧ w.grownBy w' (some b)) := by
  have AT := thrOpen1_ok w b hash chain key text a n h hk hn C
  obtain ⟨c0, c1, c2, c3, c4⟩ := h.cells
  rw [suV_1] at c0
  have NA := nil_MBOpen
  have AM := fun (W : World) (hW : NSt W b 1 hash chain key (n + 1)) => code_mixhash1 W b hash chain key text (n + 1) hW hh ht
  generalize hashM 1 (hash ++ text) = V at *
  clear C c1 c2 c3 c4 h hk hh ht
  unfold S at *
  go_enter Tryz.func9, Tryz.ntmps9
  go_wp2_with fail
  (with_reducible refine AT.mono ?_)
  rintro e x ⟨rfl, hs, hg⟩
  have AM2 := AM x hs
  have HG := Lib.hid hg
  clear AM hs hg AT
  go_wp2_with fail
  (with_reducible refine AM2.mono ?_)
  rintro e x2 ⟨rfl, hs2, hg2⟩
  have HG2 := Lib.hid (grow_trans HG.out hg2)
  have HS := Lib.hid hs2
  clear hs2 hg2 AM2
  go_wp2_with fail
  go_ret2
  exact ⟨rfl, HS.out, HG2.out⟩

set_option maxRecDepth 100000 in
set_option maxHeartbeats 2000000 in
theorem stOpen2_err (w : World) (b : Nat) (hash chain key text a : List UInt8) (n : Nat) (c : Int) (hc : (c == 0) = false) (h : NSt w b 2 hash chain key n) (hk : key.length = 32) (hn : n < 18446744073709551000)
    (C : ∀ W : World, Calls Tryz.prog 96 #[.agg #[], S key, S (nonL 2 n), S hash, S text] W (Grown (.tuple #[S a, .int .i64 c]) W)) :
    Calls Tryz.prog 9 #[.pointer (some ⟨b, 0, none⟩), S text] w (Grown (.tuple #[S a, .int .i64 c]) w) := by
  have AT := thrOpen2_err w b hash chain key text a n c hc h hk hn C
  obtain ⟨c0, c1, c2, c3, c4⟩ := h.cells
  rw [suV_2] at c0
  have NA := nil_MSOpen
  clear C c1 c2 c3 c4 h hk
  unfold S at *
  go_enter Tryz.func9, Tryz.ntmps9
  go_wp2_with fail
  (with_reducible refine AT.mono ?_)
  rintro e x ⟨rfl, hg⟩
  go_wp2_with fail
  go_ret2
  exact ⟨rfl, hg⟩

set_option maxRecDepth 100000 in
set_option maxHeartbeats 2000000 in
theorem stOpen2_ok (w : World) (b : Nat) (hash chain key text a : List UInt8) (n : Nat) (h : NSt w b 2 hash chain key n) (hk : key.length = 32) (hh : hash.length ≤ 32) (hn : n < 18446744073709551000) (ht : text.length ≤ 9223372036854774000)
    (C : ∀ W : World, Calls Tryz.prog 96 #[.agg #[], S key, S (nonL 2 n), S hash, S text] W (Grown (.tuple #[S a, .int .i64 0]) W)) :
    Calls Tryz.prog 9 #[.pointer (some ⟨b, 0, none⟩), S text] w (fun e w' => e = .returned (.tuple #[S a, .int .i64 0]) ∧ NSt w' b 2 (hashM 2 (hash ++ text)) chain key (n + 1) ∧ w.grownBy w' (some b)) := by
  have AT := thrOpen2_ok w b hash chain key text a n h hk hn C
  obtain ⟨c0, c1, c2, c3, c4⟩ := h.cells
  rw [suV_2] at c0
  have NA := nil_MSOpen
  have AM := fun (W : World) (hW : NSt W b 2 hash chain key (n + 1)) => code_mixhash2 W b hash chain key text (n + 1) hW hh ht
  generalize hashM 2 (hash ++ text) = V at *
  clear C c1 c2 c3 c4 h hk hh ht
  unfold S at *
  go_enter Tryz.func9, Tryz.ntmps9
  go_wp2_with fail
  (with_reducible refine AT.mono ?_)
  rintro e x ⟨rfl, hs, hg⟩
  have AM2 := AM x hs
  have HG := Lib.hid hg
  clear AM hs hg AT
  go_wp2_with fail
  (with_reducible refine AM2.mono ?_)
  rintro e x2 ⟨rfl, hs2, hg2⟩
  have HG2 := Lib.hid (grow_trans HG.out hg2)
  have HS := Lib.hid hs2
  clear hs2 hg2 AM2
  go_wp2_with fail
  go_ret2
  exact ⟨rfl, HS.out, HG2.out⟩

end Go.Proofs.YtffeekfofbcobaaGreat

namespace Go.Proofs.YtffeekfofbcobaaGreat
open Go.RowKit
set_option linter.unusedVariables false

def stepKs : List Lk := [.int .i64, .int .i64, .int .i64, .int .u32, .int .u32, .str, .int .u32, .int .i64]

structure StepV where
  kind : Int
  a : Int
  b : Int
  n : Int
  m : Int
  s : ByteArray
  addr : Int
  bits : Int

def StepV.ok (v : StepV) : Prop :=
  (Lit.int .i64 v.kind).wf = true ∧ (Lit.int .i64 v.a).wf = true ∧ (Lit.int .i64 v.b).wf = true ∧ (Lit.int .u32 v.n).wf = true ∧ (Lit.int .u32 v.m).wf = true ∧ v.s.size ≤ maxLen ∧ (Lit.int .u32 v.addr).wf = true ∧ (Lit.int .i64 v.bits).wf = true

def StepV.cells (v : StepV) : Array Value := #[.int .i64 v.kind, .int .i64 v.a, .int .i64 v.b, .int .u32 v.n, .int .u32 v.m, .string v.s, .int .u32 v.addr, .int .i64 v.bits]

/-- Element i of a slice of steps. -/
def StepIn (w : World) (a : Option Addr) (i : Nat) (v : StepV) : Prop :=
  v.ok ∧ ∃ x, a = some x ∧ x.block < w.heap.size ∧ ∀ (j : Nat) (u : Value), v.cells[j]? = some u → w.cell? (x.add (i * 8 + j)) = some u

theorem add_block (x : Addr) (n : Nat) : (x.add n).block = x.block := by unfold Addr.add; split <;> rfl

theorem steps_in {w : World} {a : Option Addr} {len cap : Nat} (h : IsRecs stepKs w a len cap) : (len ≤ cap ∧ cap ≤ maxLen) ∧ ∀ i, i < len → ∃ v, StepIn w a i v := by
  rcases h with ⟨rfl, rfl, rfl⟩ | ⟨x, rfl, h1, h2, h3⟩
  · exact ⟨⟨Nat.le_refl _, Nat.zero_le _⟩, fun i hi => absurd hi (Nat.not_lt_zero _)⟩
  · refine ⟨⟨h1, h2⟩, fun i hi => ?_⟩
    obtain ⟨_, e0, k, rfl, w0⟩ := h3 i hi 0 _ rfl
    obtain ⟨_, e1, a, rfl, w1⟩ := h3 i hi 1 _ rfl
    obtain ⟨_, e2, b, rfl, w2⟩ := h3 i hi 2 _ rfl
    obtain ⟨_, e3, n, rfl, w3⟩ := h3 i hi 3 _ rfl
    obtain ⟨_, e4, m, rfl, w4⟩ := h3 i hi 4 _ rfl
    obtain ⟨_, e5, s, rfl, w5⟩ := h3 i hi 5 _ rfl
    obtain ⟨_, e6, p, rfl, w6⟩ := h3 i hi 6 _ rfl
    obtain ⟨_, e7, q, rfl, w7⟩ := h3 i hi 7 _ rfl
    have hl : stepKs.length = 8 := rfl
    rw [hl] at e0 e1 e2 e3 e4 e5 e6 e7
    refine ⟨⟨k, a, b, n, m, s, p, q⟩, ⟨w0, w1, w2, w3, w4, w5, w6, w7⟩, x, rfl, ?_, ?_⟩
    · have := World.block_lt_of_cell? w _ e0
      rwa [add_block] at this
    · intro j u hj
      match j, hj with
      | 0, hj => simp [StepV.cells] at hj; rw [← hj]; exact e0
      | 1, hj => simp [StepV.cells] at hj; rw [← hj]; exact e1
      | 2, hj => simp [StepV.cells] at hj; rw [← hj]; exact e2
      | 3, hj => simp [StepV.cells] at hj; rw [← hj]; exact e3
      | 4, hj => simp [StepV.cells] at hj; rw [← hj]; exact e4
      | 5, hj => simp [StepV.cells] at hj; rw [← hj]; exact e5
      | 6, hj => simp [StepV.cells] at hj; rw [← hj]; exact e6
      | 7, hj => simp [StepV.cells] at hj; rw [← hj]; exact e7
      | n + 8, hj => simp [StepV.cells] at hj

theorem StepIn.later {w w' : World} {a : Option Addr} {i : Nat} {v : StepV} (h : StepIn w a i v) (hb : Below w.heap.size w w') : StepIn w' a i v := by
  obtain ⟨hv, x, hx, hl, hc⟩ := h
  refine ⟨hv, x, hx, Nat.lt_of_lt_of_le hl hb.size, fun j u hj => ?_⟩
  rw [hb.cell (by rw [add_block]; exact hl)]
  exact hc j u hj

/-- The eight cells, at the addresses that a load of the whole struct asks for. -/
theorem StepIn.cells8 {w : World} {a : Option Addr} {i : Nat} {v : StepV} (h : StepIn w a i v) : ∃ x, a = some x ∧ x.block < w.heap.size ∧
    w.cell? (x.add (i * 8)) = some (.int .i64 v.kind) ∧ w.cell? ⟨(x.add (i * 8)).block, (x.add (i * 8)).off + 1, none⟩ = some (.int .i64 v.a) ∧ w.cell? ⟨(x.add (i * 8)).block, (x.add (i * 8)).off + 2, none⟩ = some (.int .i64 v.b) ∧
    w.cell? ⟨(x.add (i * 8)).block, (x.add (i * 8)).off + 3, none⟩ = some (.int .u32 v.n) ∧ w.cell? ⟨(x.add (i * 8)).block, (x.add (i * 8)).off + 4, none⟩ = some (.int .u32 v.m) ∧ w.cell? ⟨(x.add (i * 8)).block, (x.add (i * 8)).off + 5, none⟩ = some (.string v.s) ∧
    w.cell? ⟨(x.add (i * 8)).block, (x.add (i * 8)).off + 6, none⟩ = some (.int .u32 v.addr) ∧ w.cell? ⟨(x.add (i * 8)).block, (x.add (i * 8)).off + 7, none⟩ = some (.int .i64 v.bits) := by
  obtain ⟨_, x, hx, hl, hc⟩ := h
  have e : ∀ j, 0 < j → x.add (i * 8 + j) = ⟨(x.add (i * 8)).block, (x.add (i * 8)).off + j, none⟩ := by
    intro j hj
    unfold Addr.add
    rw [if_neg (by omega)]
    split
    · rename_i h0; simp [h0]
    · simp [Nat.add_assoc]
  refine ⟨x, hx, hl, hc 0 _ rfl, ?_, ?_, ?_, ?_, ?_, ?_, ?_⟩
  · rw [← e 1 (by omega)]; exact hc 1 _ rfl
  · rw [← e 2 (by omega)]; exact hc 2 _ rfl
  · rw [← e 3 (by omega)]; exact hc 3 _ rfl
  · rw [← e 4 (by omega)]; exact hc 4 _ rfl
  · rw [← e 5 (by omega)]; exact hc 5 _ rfl
  · rw [← e 6 (by omega)]; exact hc 6 _ rfl
  · rw [← e 7 (by omega)]; exact hc 7 _ rfl

/-- A slice of steps whose texts hold so many letters at the most. -/
def IsSteps (w : World) (a : Option Addr) (len cap bound : Nat) : Prop := len ≤ bound ∧ len ≤ cap ∧ cap ≤ maxLen ∧ ∀ i, i < len → ∃ v, StepIn w a i v ∧ v.s.size ≤ bound

end Go.Proofs.YtffeekfofbcobaaGreat

namespace Go.Proofs.YtffeekfofbcobaaGreat
open Go.RowKit
set_option linter.unusedVariables false

theorem tmod_rest (n m : Int) (hm : 0 < m) : (if n.tmod m < 0 then n.tmod m + m else n.tmod m) = n % m := by
  have h1 := Int.tmod_eq_emod (a := n) (b := m)
  have h2 := Int.emod_nonneg n (b := m) (by omega)
  have h3 := Int.emod_lt_of_pos n hm
  by_cases hn : 0 ≤ n ∨ m ∣ n
  · rw [if_pos hn] at h1
    rw [if_neg (by omega)]; omega
  · rw [if_neg hn] at h1
    have : (m.natAbs : Int) = m := by omega
    have h4 : n % m ≠ 0 := fun h => hn (Or.inr (Int.dvd_of_emod_eq_zero h))
    rw [if_pos (by omega)]; omega

set_option maxHeartbeats 400000 in
theorem rest_any (n m : Int) (w : World) (hn0 : -9223372036854775808 ≤ n) (hn1 : n ≤ 9223372036854775807) (hm : 0 < m) (hm1 : m ≤ 9223372036854775807) :
    Calls Tryz.prog 5 #[.int .i64 n, .int .i64 m] w fun e w' => e = .returned (.int .i64 (n % m)) ∧ w = w' := by
  have hr := tmod_rest n m hm
  have b1 : n.tmod m < m := Int.tmod_lt_of_pos n hm
  have b2 : -m < n.tmod m := by
    have := Int.emod_nonneg n (b := m) (by omega)
    by_cases h : n.tmod m < 0
    · rw [if_pos h] at hr
      have h4 : n % m ≠ 0 := by
        intro h0
        rw [Int.tmod_eq_zero_of_dvd (Int.dvd_of_emod_eq_zero h0)] at h; omega
      omega
    · omega
  have HR := Lib.hid hr
  clear hr
  go_enter Tryz.func5, Tryz.ntmps5
  go_wp2
  all_goals
    go_ret
    refine ⟨ret_int ?_, rfl⟩
    have := HR.out
    first | rwa [if_pos (by assumption)] at this | rwa [if_neg (by omega)] at this

end Go.Proofs.YtffeekfofbcobaaGreat

namespace Go.Proofs.YtffeekfofbcobaaGreat
open Go.RowKit
set_option linter.unusedVariables false

theorem rest_nat (n : Int) (m : Nat) (M : Int) (hM : M = (m : Int)) (hn0 : -9223372036854775808 ≤ n) (hn1 : n ≤ 9223372036854775807) (hm : 0 < m) (hm1 : m ≤ 9223372036854775807) :
    ∃ r : Nat, r < m ∧ ∀ W : World, Calls Tryz.prog 5 #[.int .i64 n, .int .i64 M] W fun e w' => e = .returned (.int .i64 (r : Int)) ∧ W = w' := by
  subst hM
  refine ⟨(n % m).toNat, ?_, fun W => ?_⟩
  · have := Int.emod_lt_of_pos n (show (0 : Int) < m by omega)
    have := Int.emod_nonneg n (show (m : Int) ≠ 0 by omega)
    omega
  · have h := rest_any n m W hn0 hn1 (by omega) (by omega)
    have := Int.emod_nonneg n (show (m : Int) ≠ 0 by omega)
    rw [show (((n % (m : Int)).toNat : Nat) : Int) = n % (m : Int) from by omega]
    exact h
theorem wf_i64_of {n : Int} (h : (Lit.int .i64 n).wf = true) : -9223372036854775808 ≤ n ∧ n ≤ 9223372036854775807 := by
  simp only [Lit.wf, Bool.and_eq_true, decide_eq_true_eq] at h
  exact h

end Go.Proofs.YtffeekfofbcobaaGreat

namespace Go.Proofs.YtffeekfofbcobaaGreat
open Go.RowKit
set_option linter.unusedVariables false

/-- A text sealed as the n-th. -/
def sealN (suite : Nat) (key : List UInt8) (n : Nat) (more text : List UInt8) : List UInt8 := if suite = 1 then sealL key (nonL 1 n) more text else gsealL key (nonL 2 n) more text
theorem sealN_length (suite : Nat) (key : List UInt8) (n : Nat) (more text : List UInt8) (hk : key.length = 32) : (sealN suite key n more text).length = text.length + 16 := by
  unfold sealN
  split
  · exact sealL_length _ _ _ _
  · exact gsealL_length _ _ _ _ hk (nonL_length 2 n)

end Go.Proofs.YtffeekfofbcobaaGreat

namespace Go.Proofs.YtffeekfofbcobaaGreat
open Go.RowKit
set_option linter.unusedVariables false

theorem mseal1 (W : World) (key more text : List UInt8) (n : Nat) (hk : key.length = 32) (hm : more.length ≤ 2000) (ht : text.length ≤ 2000) : Calls Tryz.prog 73 #[.agg #[], S key, S (nonL 1 n), S more, S text] W (Grown (.tuple #[S (sealN 1 key n more text), .int .i64 0]) W) :=
  code_nBSeal W key (nonL 1 n) more text _ 0 fun W => code_seal W key (nonL 1 n) more text hk (nonL_length 1 n) hm ht
theorem mseal2 (W : World) (key more text : List UInt8) (n : Nat) (hk : key.length = 32) (hm : more.length ≤ 2000) (ht : text.length ≤ 2000) : Calls Tryz.prog 97 #[.agg #[], S key, S (nonL 2 n), S more, S text] W (Grown (.tuple #[S (sealN 2 key n more text), .int .i64 0]) W) :=
  code_nSSeal W key (nonL 2 n) more text _ 0 fun W => code_gseal W key (nonL 2 n) more text hk (nonL_length 2 n) hm ht
theorem mlarge1 (W : World) (key more text : List UInt8) (n : Nat) (hk : key.length = 32) (hm : more.length ≤ 2000) (ht : 2000 < text.length) : Calls Tryz.prog 73 #[.agg #[], S key, S (nonL 1 n), S more, S text] W (Grown (.tuple #[S [], .int .i64 2]) W) :=
  code_nBSeal W key (nonL 1 n) more text _ 2 fun W => (code_seal_err W key (nonL 1 n) more text 2 (by unfold checkE; rw [if_pos ⟨hk, nonL_length 1 n⟩, if_neg (by omega)]) rfl).mono fun e w' ⟨h1, h2⟩ => ⟨h1, h2 ▸ grow_refl _ _⟩
theorem mlarge2 (W : World) (key more text : List UInt8) (n : Nat) (hk : key.length = 32) (hm : more.length ≤ 2000) (ht : 2000 < text.length) : Calls Tryz.prog 97 #[.agg #[], S key, S (nonL 2 n), S more, S text] W (Grown (.tuple #[S [], .int .i64 2]) W) :=
  code_nSSeal W key (nonL 2 n) more text _ 2 fun W => (code_gseal_err W key (nonL 2 n) more text 2 (by unfold gcheckE; rw [if_pos ⟨hk, nonL_length 2 n⟩, if_neg (by omega)]) rfl).mono fun e w' ⟨h1, h2⟩ => ⟨h1, h2 ▸ grow_refl _ _⟩
theorem mopen1 (W : World) (key more text : List UInt8) (n : Nat) (hk : key.length = 32) (hm : more.length ≤ 2000) (ht : text.length ≤ 2000) : Calls Tryz.prog 72 #[.agg #[], S key, S (nonL 1 n), S more, S (sealN 1 key n more text)] W (Grown (.tuple #[S text, .int .i64 0]) W) :=
  code_nBOpen W key (nonL 1 n) more _ _ 0 fun W => by
    have := code_open W key (nonL 1 n) more (chxL key (nonL 1 n) 1 text) hk (nonL_length 1 n) hm (by rw [chxL_length]; exact ht)
    rwa [chxL_twice _ _ 1 text (by omega)] at this
theorem mopen2 (W : World) (key more text : List UInt8) (n : Nat) (hk : key.length = 32) (hm : more.length ≤ 2000) (ht : text.length ≤ 2000) : Calls Tryz.prog 96 #[.agg #[], S key, S (nonL 2 n), S more, S (sealN 2 key n more text)] W (Grown (.tuple #[S text, .int .i64 0]) W) :=
  code_nSOpen W key (nonL 2 n) more _ _ 0 fun W => by
    have := code_gopen W key (nonL 2 n) more (gcxL key (nonL 2 n) text) hk (nonL_length 2 n) hm (by rw [gcxL_length _ _ _ hk (nonL_length 2 n)]; exact ht)
    rwa [gcxL_twice _ _ text hk (nonL_length 2 n)] at this
theorem step_of (v : StepV) (hv : v.ok) : ∃ r : Nat, r < 4 ∧ ∀ W : World, Calls Tryz.prog 11 #[.agg v.cells, .int .i64 4] W (Grown (.int .i64 (r : Int)) W) := by
  have w0 := wf_i64_of hv.1
  obtain ⟨r, hr, R⟩ := rest_nat v.kind 4 4 rfl w0.1 w0.2 (by omega) (by omega)
  refine ⟨r, hr, fun W => ?_⟩
  obtain ⟨x0, x1, x2, x3, x4, x5, x6, x7⟩ := v
  simp only at R
  clear hv w0
  unfold StepV.cells
  go_enter Tryz.func11, Tryz.ntmps11
  go_wp2_with fail
  (with_reducible refine (R _).mono ?_)
  rintro e x ⟨rfl, rfl⟩
  go_wp2_with fail
  go_ret
  exact ⟨rfl, World.grownBy_alloc _ _ _⟩

set_option maxRecDepth 100000 in
set_option maxHeartbeats 16000000 in
theorem meets1 (x0 : Int) (pro : List UInt8) (a2 : Option Addr) (len2 cap2 : Nat) (w : World) (hp : pro.length ≤ 1048576) (r : Nat) (hr : 1 + r = 1) (R : ∀ W : World, Calls Tryz.prog 5 #[.int .i64 x0, .int .i64 2] W fun e w' => e = .returned (.int .i64 (r : Int)) ∧ W = w') (u2 : IsSteps w a2 len2 cap2 1048576) :
    Calls Tryz.prog 4 #[.int .i64 x0, S pro, .slice a2 len2 cap2] w fun e w' => e = .returned (.bool true) ∧ Below w.heap.size w w' := by
  obtain ⟨lb, lc2, cm2, hst⟩ := u2
  unfold maxLen at cm2
  have wu : IntKind.i64.wrap (1 + (r : Int)) = 1 := by rw [show 1 + (r : Int) = 1 from by omega]; rfl
  have wu2 : 1 + (r : Int) = 1 := by omega
  have AN := fun W : World => code_nnew1 W pro (by omega)
  have lH : (hashM 1 (begH 1 ++ pro)).length = 32 := hashM_length _ _
  have lB : (begH 1).length = 32 := begH_length 1 (by decide)
  unfold Newed at AN
  generalize hashM 1 (begH 1 ++ pro) = H0 at *
  generalize begH 1 = C0 at *
  have z1 : ((H0.length : Int) != 32) = false := by rw [lH]; rfl
  have HLH := Lib.hid lH
  have HLB := Lib.hid lB
  have HST := Lib.hid hst
  clear hr lH lB hp hst
  unfold S at AN ⊢
  go_enter Tryz.func4, Tryz.ntmps4
  go_wp2_with fail
  (with_reducible refine (R _).mono ?_)
  rintro e x ⟨rfl, rfl⟩
  go_wp2_with fail
  (with_reducible refine (AN _).mono ?_)
  rintro e x1 ⟨a, rfl, hs, hg, la⟩
  go_wp2_with fail
  (with_reducible refine (AN _).mono ?_)
  rintro e x2 ⟨b, rfl, hsb, hg2, lbx⟩
  have hab : a ≠ b := by have := Blk.lt hs; omega
  have laa : w.heap.size ≤ a := la
  have lbb : w.heap.size ≤ b := by have := hg.size; omega
  have hsa := hs.kept hg2 nofun
  have AH := code_nhash x2 a 1 H0 C0 [] 0 hsa
  have HA := Lib.hid hsa
  have HB := Lib.hid hsb
  have HG := Lib.hid (grow_trans hg hg2)
  unfold S at AH
  clear hs hsa hsb hg hg2 AN R la lbx
  go_wp2_with fail
  (with_reducible refine AH.mono ?_)
  rintro e x3 ⟨rfl, rfl⟩
  clear AH
  go_wp2_with fail
  go_loopw [58] (fun v58 wr => ∃ i : Nat, ∃ hash chain key : List UInt8, ∃ n : Nat, i ≤ len2 ∧ v58 = .int .i64 i ∧ n ≤ i ∧ hash.length = 32 ∧ chain.length = 32 ∧ (key = [] ∨ key.length = 32) ∧ Hid (NSt wr a 1 hash chain key n) ∧ Hid (NSt wr b 1 hash chain key n) ∧ Hid (w.grownBy wr none)) (fun v58 _ => len2 - (intOf v58).toNat)
  case atStart => exact ⟨0, H0, C0, [], 0, by omega, rfl, by omega, HLH.out, HLB.out, Or.inl rfl, HA, HB, HG⟩
  case round =>
    clear HA HB HG
    obtain ⟨i, hash, chain, key, n, hi, rfl, hn, lha, lch, lky, hA, hB, hg⟩ := hrel
    by_cases hlt : i < len2
    · obtain ⟨v, hv, hvs⟩ := HST.out i hlt
      have hv2 := hv.later (grow_below hg.out _ (Nat.le_refl _) (by simp))
      obtain ⟨rr, hrr, OF⟩ := step_of v hv.1
      obtain ⟨xa, rfl, hxl, c0, c1, c2, c3, c4, c5, c6, c7⟩ := hv2.cells8
      obtain ⟨vk, va, vb, vn, vm, vs, vp, vq⟩ := v
      obtain ⟨l, rfl, hll⟩ := list_of vs
      have hl6 : l.length ≤ 1048576 := by rw [hll]; exact hvs
      simp only at c0 c1 c2 c3 c4 c5 c6 c7
      obtain ⟨q, hq⟩ : ∃ q, q = wr.heap.size := ⟨_, rfl⟩
      obtain ⟨y, hy⟩ : ∃ y, y = wr.alloc (.cells (StepV.cells ⟨vk, va, vb, vn, vm, ⟨l.toArray⟩, vp, vq⟩) 37) := ⟨_, rfl⟩
      have hyq : y.heap[q]? = some (.cells (StepV.cells ⟨vk, va, vb, vn, vm, ⟨l.toArray⟩, vp, vq⟩) 37 (0, 0)) := by rw [hy, hq]; exact obj_new _ _
      have hgy : wr.grownBy y none := by rw [hy]; exact World.grownBy_alloc _ _ _
      have HYA := Lib.hid (hA.out.kept hgy nofun)
      have HYB := Lib.hid (hB.out.kept hgy nofun)
      have HYG := Lib.hid (grow_trans hg.out hgy)
      have hqa : q ≠ a := by have := Blk.lt hA.out; omega
      have hqb : q ≠ b := by have := Blk.lt hB.out; omega
      have HQ := Lib.hid hq
      have HY := Lib.hid hy
      have HYQ := Lib.hid hyq
      have OFy := OF y
      clear hv hv2 hq hy hyq hgy hA hB hg OF hxl hll hvs
      unfold StepV.cells at HY OFy
      go_upto_region 9 with (fail)
      rw [← HY.out, ← HQ.out]
      have d0 : y.cell? ⟨q, 0, none⟩ = some (.int .i64 vk) := obj_cell HYQ.out 0
      have d1 : y.cell? ⟨q, 1, none⟩ = some (.int .i64 va) := obj_cell HYQ.out 1
      have d2 : y.cell? ⟨q, 2, none⟩ = some (.int .i64 vb) := obj_cell HYQ.out 2
      have d3 : y.cell? ⟨q, 3, none⟩ = some (.int .u32 vn) := obj_cell HYQ.out 3
      have d4 : y.cell? ⟨q, 4, none⟩ = some (.int .u32 vm) := obj_cell HYQ.out 4
      have d5 : y.cell? ⟨q, 5, none⟩ = some (.string ⟨l.toArray⟩) := obj_cell HYQ.out 5
      have d6 : y.cell? ⟨q, 6, none⟩ = some (.int .u32 vp) := obj_cell HYQ.out 6
      have d7 : y.cell? ⟨q, 7, none⟩ = some (.int .i64 vq) := obj_cell HYQ.out 7
      clear c0 c1 c2 c3 c4 c5 c6 c7
      go_wp2_with fail
      (with_reducible refine OFy.mono ?_)
      rintro e x1 ⟨rfl, hg1⟩
      have hA1 := HYA.out.kept hg1 nofun
      have hB1 := HYB.out.kept hg1 nofun
      have c5 := hg1.cell (a := ⟨q, 5, none⟩) d5 nofun
      have HG1 := Lib.hid (grow_trans HYG.out hg1)
      clear hg1 OFy HYA HYB HYG HYQ HY HQ d0 d1 d2 d3 d4 d5 d6 d7
      have h4 : rr = 0 ∨ rr = 1 ∨ rr = 2 ∨ rr = 3 := by omega
      rcases h4 with h4 | h4 | h4 | h4
      · have e4 : (rr : Int) = 0 := by omega
        rw [e4]
        clear h4 hrr e4
        have h32 : (hashM 1 (hash ++ l)).length = 32 := hashM_length _ _
        have c32 : (chain).length = 32 := lch
        have k32 : (key) = [] ∨ (key).length = 32 := lky
        have M1 := code_mixhash1 x1 a hash chain key l n hA1 (by omega) (by omega)
        have MB := fun (W : World) (hW : NSt W b 1 hash chain key n) => code_mixhash1 W b hash chain key l n hW (by omega) (by omega)
        unfold Mixed at M1 MB
        generalize hashM 1 (hash ++ l) = V at *
        have H32 := Lib.hid (And.intro h32 (And.intro c32 k32))
        unfold S at M1 MB
        clear h32 c32 k32
        go_wp2_with fail
        (with_reducible refine M1.mono ?_)
        rintro e x2 ⟨rfl, hA2, hg2⟩
        have hB2 := hB1.kept hg2 (by simp; omega)
        have q2 := hg2.cell (a := ⟨q, 5, none⟩) c5 (by simp; omega)
        have MB2 := MB x2 hB2
        have HA2 := Lib.hid hA2
        have HG2 := Lib.hid (grow_trans_new HG1.out hg2 laa)
        clear hA2 hg2 hB2 MB M1 c5 hA1 hB1
        go_wp2_with fail
        (with_reducible refine MB2.mono ?_)
        rintro e x3 ⟨rfl, hB3, hg3⟩
        have hA3 := HA2.out.kept hg3 (by simp; omega)
        have HS1 := code_nhash x3 a 1 V chain key n hA3
        have HS2 := code_nhash x3 b 1 V chain key n hB3
        have HA3 := Lib.hid hA3
        have HB3 := Lib.hid hB3
        have HG3 := Lib.hid (grow_trans_new HG2.out hg3 lbb)
        clear hA3 hB3 hg3 MB2 q2
        unfold S at HS1 HS2
        go_wp2_with fail
        (with_reducible refine HS1.mono ?_)
        rintro e x4 ⟨rfl, rfl⟩
        go_wp2_with fail
        (with_reducible refine HS2.mono ?_)
        rintro e x4 ⟨rfl, rfl⟩
        clear HS1 HS2
        go_wp2_with fail
        go_roundw
        case rel => exact ⟨i + 1, V, chain, key, n, by omega, by go_num, by omega, H32.out.1, H32.out.2.1, H32.out.2.2, HA3, HB3, HG3⟩
        case measure => simp [intOf]; omega
      · have e4 : (rr : Int) = 1 := by omega
        rw [e4]
        clear h4 hrr e4
        have h32 : (hash).length = 32 := lha
        have c32 : (mk1 1 chain l).length = 32 := mk1_length _ _ _
        have k32 : (mk2 1 chain l) = [] ∨ (mk2 1 chain l).length = 32 := Or.inr (mk2_length _ _ _)
        have M1 := code_mixkey1 x1 a hash chain key l n hA1 (by omega) (by omega)
        have MB := fun (W : World) (hW : NSt W b 1 hash chain key n) => code_mixkey1 W b hash chain key l n hW (by omega) (by omega)
        unfold Mixed at M1 MB
        generalize mk1 1 chain l = CC at *
        generalize mk2 1 chain l = KK at *
        have H32 := Lib.hid (And.intro h32 (And.intro c32 k32))
        unfold S at M1 MB
        clear h32 c32 k32
        go_wp2_with fail
        (with_reducible refine M1.mono ?_)
        rintro e x2 ⟨rfl, hA2, hg2⟩
        have hB2 := hB1.kept hg2 (by simp; omega)
        have q2 := hg2.cell (a := ⟨q, 5, none⟩) c5 (by simp; omega)
        have MB2 := MB x2 hB2
        have HA2 := Lib.hid hA2
        have HG2 := Lib.hid (grow_trans_new HG1.out hg2 laa)
        clear hA2 hg2 hB2 MB M1 c5 hA1 hB1
        go_wp2_with fail
        (with_reducible refine MB2.mono ?_)
        rintro e x3 ⟨rfl, hB3, hg3⟩
        have hA3 := HA2.out.kept hg3 (by simp; omega)
        have HS1 := code_nhash x3 a 1 hash CC KK 0 hA3
        have HS2 := code_nhash x3 b 1 hash CC KK 0 hB3
        have HA3 := Lib.hid hA3
        have HB3 := Lib.hid hB3
        have HG3 := Lib.hid (grow_trans_new HG2.out hg3 lbb)
        clear hA3 hB3 hg3 MB2 q2
        unfold S at HS1 HS2
        go_wp2_with fail
        (with_reducible refine HS1.mono ?_)
        rintro e x4 ⟨rfl, rfl⟩
        go_wp2_with fail
        (with_reducible refine HS2.mono ?_)
        rintro e x4 ⟨rfl, rfl⟩
        clear HS1 HS2
        go_wp2_with fail
        go_roundw
        case rel => exact ⟨i + 1, hash, CC, KK, 0, by omega, by go_num, by omega, H32.out.1, H32.out.2.1, H32.out.2.2, HA3, HB3, HG3⟩
        case measure => simp [intOf]; omega
      · have e4 : (rr : Int) = 2 := by omega
        rw [e4]
        clear h4 hrr e4
        have h32 : (hashM 1 (hash ++ mk2 1 chain l)).length = 32 := hashM_length _ _
        have c32 : (mk1 1 chain l).length = 32 := mk1_length _ _ _
        have k32 : (mk3 1 chain l) = [] ∨ (mk3 1 chain l).length = 32 := Or.inr (mk3_length _ _ _)
        have M1 := code_mixboth1 x1 a hash chain key l n hA1 (by omega) (by omega) (by omega)
        have MB := fun (W : World) (hW : NSt W b 1 hash chain key n) => code_mixboth1 W b hash chain key l n hW (by omega) (by omega) (by omega)
        unfold Mixed at M1 MB
        generalize hashM 1 (hash ++ mk2 1 chain l) = V at *
        generalize mk1 1 chain l = CC at *
        generalize mk3 1 chain l = KK at *
        have H32 := Lib.hid (And.intro h32 (And.intro c32 k32))
        unfold S at M1 MB
        clear h32 c32 k32
        go_wp2_with fail
        (with_reducible refine M1.mono ?_)
        rintro e x2 ⟨rfl, hA2, hg2⟩
        have hB2 := hB1.kept hg2 (by simp; omega)
        have q2 := hg2.cell (a := ⟨q, 5, none⟩) c5 (by simp; omega)
        have MB2 := MB x2 hB2
        have HA2 := Lib.hid hA2
        have HG2 := Lib.hid (grow_trans_new HG1.out hg2 laa)
        clear hA2 hg2 hB2 MB M1 c5 hA1 hB1
        go_wp2_with fail
        (with_reducible refine MB2.mono ?_)
        rintro e x3 ⟨rfl, hB3, hg3⟩
        have hA3 := HA2.out.kept hg3 (by simp; omega)
        have HS1 := code_nhash x3 a 1 V CC KK 0 hA3
        have HS2 := code_nhash x3 b 1 V CC KK 0 hB3
        have HA3 := Lib.hid hA3
        have HB3 := Lib.hid hB3
        have HG3 := Lib.hid (grow_trans_new HG2.out hg3 lbb)
        clear hA3 hB3 hg3 MB2 q2
        unfold S at HS1 HS2
        go_wp2_with fail
        (with_reducible refine HS1.mono ?_)
        rintro e x4 ⟨rfl, rfl⟩
        go_wp2_with fail
        (with_reducible refine HS2.mono ?_)
        rintro e x4 ⟨rfl, rfl⟩
        clear HS1 HS2
        go_wp2_with fail
        go_roundw
        case rel => exact ⟨i + 1, V, CC, KK, 0, by omega, by go_num, by omega, H32.out.1, H32.out.2.1, H32.out.2.2, HA3, HB3, HG3⟩
        case measure => simp [intOf]; omega
      · have e4 : (rr : Int) = 3 := by omega
        rw [e4]
        clear h4 hrr e4
        rcases lky with rfl | lky
        · have AS := code_nSeal_nokey1 x1 a hash chain l n hA1
          have HA1 := Lib.hid hA1
          have HB1 := Lib.hid hB1
          unfold S at AS
          clear hA1 hB1
          go_wp2_with fail
          (with_reducible refine AS.mono ?_)
          rintro e x2 ⟨rfl, rfl⟩
          clear AS c5
          go_wp2_with fail
          go_roundw
          case rel => exact ⟨i + 1, hash, chain, [], n, by omega, by go_num, by omega, lha, lch, Or.inl rfl, HA1, HB1, HG1⟩
          case measure => simp [intOf]; omega
        · by_cases h2000 : 2000 < l.length
          · have AS := stSeal1_err x1 a hash chain key l [] n 2 rfl hA1 lky (by omega) (fun W => mlarge1 W key hash l n lky (by omega) h2000)
            have HA1 := Lib.hid hA1
            have HB1 := Lib.hid hB1
            unfold S at AS
            clear hA1 hB1
            go_wp2_with fail
            (with_reducible refine AS.mono ?_)
            rintro e x2 ⟨rfl, hg2⟩
            have HA2 := Lib.hid (HA1.out.kept hg2 nofun)
            have HB2 := Lib.hid (HB1.out.kept hg2 nofun)
            have HG2 := Lib.hid (grow_trans HG1.out hg2)
            clear AS c5 hg2
            go_wp2_with fail
            go_roundw
            case rel => exact ⟨i + 1, hash, chain, key, n, by omega, by go_num, by omega, lha, lch, Or.inr lky, HA2, HB2, HG2⟩
            case measure => simp [intOf]; omega
          · have lct := sealN_length 1 key n hash l lky
            have AS := stSeal1_ok x1 a hash chain key l (sealN 1 key n hash l) n hA1 lky (by omega) (by omega) (by omega) (fun W => mseal1 W key hash l n lky (by omega) (by omega))
            have AO := fun (W : World) (hW : NSt W b 1 hash chain key n) => stOpen1_ok W b hash chain key (sealN 1 key n hash l) l n hW lky (by omega) (by omega) (by omega) (fun W => mopen1 W key hash l n lky (by omega) (by omega))
            have h32 : (hashM 1 (hash ++ sealN 1 key n hash l)).length = 32 := hashM_length _ _
            generalize hashM 1 (hash ++ sealN 1 key n hash l) = V at *
            generalize sealN 1 key n hash l = ct at *
            have HH32 := Lib.hid h32
            unfold S at AS AO
            clear h32 lct
            go_wp2_with fail
            (with_reducible refine AS.mono ?_)
            rintro e x2 ⟨rfl, hA2, hg2⟩
            have hB2 := hB1.kept hg2 (by simp; omega)
            have q2 := hg2.cell (a := ⟨q, 5, none⟩) c5 (by simp; omega)
            have AO2 := AO x2 hB2
            have HA2 := Lib.hid hA2
            have HG2 := Lib.hid (grow_trans_new HG1.out hg2 laa)
            clear hA2 hg2 hB2 AO AS c5 hA1 hB1
            go_wp2_with fail
            (with_reducible refine AO2.mono ?_)
            rintro e x3 ⟨rfl, hB3, hg3⟩
            have q3 := hg3.cell (a := ⟨q, 5, none⟩) q2 (by simp; omega)
            have hA3 := HA2.out.kept hg3 (by simp; omega)
            have HS1 := code_nhash x3 a 1 V chain key (n + 1) hA3
            have HS2 := code_nhash x3 b 1 V chain key (n + 1) hB3
            have HA3 := Lib.hid hA3
            have HB3 := Lib.hid hB3
            have HG3 := Lib.hid (grow_trans_new HG2.out hg3 lbb)
            unfold S at HS1 HS2
            clear hA3 hB3 hg3 AO2 q2
            go_wp2_with fail
            (with_reducible refine HS1.mono ?_)
            rintro e x4 ⟨rfl, rfl⟩
            go_wp2_with fail
            (with_reducible refine HS2.mono ?_)
            rintro e x4 ⟨rfl, rfl⟩
            clear HS1 HS2 q3
            go_wp2_with fail
            go_roundw
            case rel => exact ⟨i + 1, V, chain, key, n + 1, by omega, by go_num, by omega, HH32.out, lch, Or.inr lky, HA3, HB3, HG3⟩
            case measure => simp [intOf]; omega
    · obtain rfl : i = len2 := by omega
      have P1 := code_nsplit1 wr a hash chain key n hA.out (by omega)
      have P2 := fun (W : World) (hW : NSt W b 1 hash chain key n) => code_nsplit1 W b hash chain key n hW (by omega)
      have e1 := mk1_length 1 chain []
      have e2 := mk2_length 1 chain []
      generalize mk1 1 chain [] = V1 at *
      generalize mk2 1 chain [] = V2 at *
      have q1 : ((V1.length : Int) == 32) = true := by rw [e1]; rfl
      have q2 : ((V2.length : Int) == 32) = true := by rw [e2]; rfl
      unfold S at P1 P2
      clear e1 e2
      go_wp2_with fail
      (with_reducible refine P1.mono ?_)
      rintro e x2 ⟨rfl, hg2⟩
      have P3 := P2 x2 (hB.out.kept hg2 nofun)
      have HG2 := Lib.hid (grow_trans hg.out hg2)
      clear hg2 P1 P2
      go_wp2_with fail
      (with_reducible refine P3.mono ?_)
      rintro e x3 ⟨rfl, hg3⟩
      have HG3 := Lib.hid (grow_trans HG2.out hg3)
      clear hg3 P3
      go_wp2_with fail
      go_ret
      exact ⟨rfl, grow_below HG3.out _ (Nat.le_refl _) (by simp)⟩

set_option maxRecDepth 100000 in
set_option maxHeartbeats 16000000 in
theorem meets2 (x0 : Int) (pro : List UInt8) (a2 : Option Addr) (len2 cap2 : Nat) (w : World) (hp : pro.length ≤ 1048576) (r : Nat) (hr : 1 + r = 2) (R : ∀ W : World, Calls Tryz.prog 5 #[.int .i64 x0, .int .i64 2] W fun e w' => e = .returned (.int .i64 (r : Int)) ∧ W = w') (u2 : IsSteps w a2 len2 cap2 1048576) :
    Calls Tryz.prog 4 #[.int .i64 x0, S pro, .slice a2 len2 cap2] w fun e w' => e = .returned (.bool true) ∧ Below w.heap.size w w' := by
  obtain ⟨lb, lc2, cm2, hst⟩ := u2
  unfold maxLen at cm2
  have wu : IntKind.i64.wrap (1 + (r : Int)) = 2 := by rw [show 1 + (r : Int) = 2 from by omega]; rfl
  have wu2 : 1 + (r : Int) = 2 := by omega
  have AN := fun W : World => code_nnew2 W pro (by omega)
  have lH : (hashM 2 (begH 2 ++ pro)).length = 32 := hashM_length _ _
  have lB : (begH 2).length = 32 := begH_length 2 (by decide)
  unfold Newed at AN
  generalize hashM 2 (begH 2 ++ pro) = H0 at *
  generalize begH 2 = C0 at *
  have z1 : ((H0.length : Int) != 32) = false := by rw [lH]; rfl
  have HLH := Lib.hid lH
  have HLB := Lib.hid lB
  have HST := Lib.hid hst
  clear hr lH lB hp hst
  unfold S at AN ⊢
  go_enter Tryz.func4, Tryz.ntmps4
  go_wp2_with fail
  (with_reducible refine (R _).mono ?_)
  rintro e x ⟨rfl, rfl⟩
  go_wp2_with fail
  (with_reducible refine (AN _).mono ?_)
  rintro e x1 ⟨a, rfl, hs, hg, la⟩
  go_wp2_with fail
  (with_reducible refine (AN _).mono ?_)
  rintro e x2 ⟨b, rfl, hsb, hg2, lbx⟩
  have hab : a ≠ b := by have := Blk.lt hs; omega
  have laa : w.heap.size ≤ a := la
  have lbb : w.heap.size ≤ b := by have := hg.size; omega
  have hsa := hs.kept hg2 nofun
  have AH := code_nhash x2 a 2 H0 C0 [] 0 hsa
  have HA := Lib.hid hsa
  have HB := Lib.hid hsb
  have HG := Lib.hid (grow_trans hg hg2)
  unfold S at AH
  clear hs hsa hsb hg hg2 AN R la lbx
  go_wp2_with fail
  (with_reducible refine AH.mono ?_)
  rintro e x3 ⟨rfl, rfl⟩
  clear AH
  go_wp2_with fail
  go_loopw [58] (fun v58 wr => ∃ i : Nat, ∃ hash chain key : List UInt8, ∃ n : Nat, i ≤ len2 ∧ v58 = .int .i64 i ∧ n ≤ i ∧ hash.length = 32 ∧ chain.length = 32 ∧ (key = [] ∨ key.length = 32) ∧ Hid (NSt wr a 2 hash chain key n) ∧ Hid (NSt wr b 2 hash chain key n) ∧ Hid (w.grownBy wr none)) (fun v58 _ => len2 - (intOf v58).toNat)
  case atStart => exact ⟨0, H0, C0, [], 0, by omega, rfl, by omega, HLH.out, HLB.out, Or.inl rfl, HA, HB, HG⟩
  case round =>
    clear HA HB HG
    obtain ⟨i, hash, chain, key, n, hi, rfl, hn, lha, lch, lky, hA, hB, hg⟩ := hrel
    by_cases hlt : i < len2
    · obtain ⟨v, hv, hvs⟩ := HST.out i hlt
      have hv2 := hv.later (grow_below hg.out _ (Nat.le_refl _) (by simp))
      obtain ⟨rr, hrr, OF⟩ := step_of v hv.1
      obtain ⟨xa, rfl, hxl, c0, c1, c2, c3, c4, c5, c6, c7⟩ := hv2.cells8
      obtain ⟨vk, va, vb, vn, vm, vs, vp, vq⟩ := v
      obtain ⟨l, rfl, hll⟩ := list_of vs
      have hl6 : l.length ≤ 1048576 := by rw [hll]; exact hvs
      simp only at c0 c1 c2 c3 c4 c5 c6 c7
      obtain ⟨q, hq⟩ : ∃ q, q = wr.heap.size := ⟨_, rfl⟩
      obtain ⟨y, hy⟩ : ∃ y, y = wr.alloc (.cells (StepV.cells ⟨vk, va, vb, vn, vm, ⟨l.toArray⟩, vp, vq⟩) 37) := ⟨_, rfl⟩
      have hyq : y.heap[q]? = some (.cells (StepV.cells ⟨vk, va, vb, vn, vm, ⟨l.toArray⟩, vp, vq⟩) 37 (0, 0)) := by rw [hy, hq]; exact obj_new _ _
      have hgy : wr.grownBy y none := by rw [hy]; exact World.grownBy_alloc _ _ _
      have HYA := Lib.hid (hA.out.kept hgy nofun)
      have HYB := Lib.hid (hB.out.kept hgy nofun)
      have HYG := Lib.hid (grow_trans hg.out hgy)
      have hqa : q ≠ a := by have := Blk.lt hA.out; omega
      have hqb : q ≠ b := by have := Blk.lt hB.out; omega
      have HQ := Lib.hid hq
      have HY := Lib.hid hy
      have HYQ := Lib.hid hyq
      have OFy := OF y
      clear hv hv2 hq hy hyq hgy hA hB hg OF hxl hll hvs
      unfold StepV.cells at HY OFy
      go_upto_region 9 with (fail)
      rw [← HY.out, ← HQ.out]
      have d0 : y.cell? ⟨q, 0, none⟩ = some (.int .i64 vk) := obj_cell HYQ.out 0
      have d1 : y.cell? ⟨q, 1, none⟩ = some (.int .i64 va) := obj_cell HYQ.out 1
      have d2 : y.cell? ⟨q, 2, none⟩ = some (.int .i64 vb) := obj_cell HYQ.out 2
      have d3 : y.cell? ⟨q, 3, none⟩ = some (.int .u32 vn) := obj_cell HYQ.out 3
      have d4 : y.cell? ⟨q, 4, none⟩ = some (.int .u32 vm) := obj_cell HYQ.out 4
      have d5 : y.cell? ⟨q, 5, none⟩ = some (.string ⟨l.toArray⟩) := obj_cell HYQ.out 5
      have d6 : y.cell? ⟨q, 6, none⟩ = some (.int .u32 vp) := obj_cell HYQ.out 6
      have d7 : y.cell? ⟨q, 7, none⟩ = some (.int .i64 vq) := obj_cell HYQ.out 7
      clear c0 c1 c2 c3 c4 c5 c6 c7
      go_wp2_with fail
      (with_reducible refine OFy.mono ?_)
      rintro e x1 ⟨rfl, hg1⟩
      have hA1 := HYA.out.kept hg1 nofun
      have hB1 := HYB.out.kept hg1 nofun
      have c5 := hg1.cell (a := ⟨q, 5, none⟩) d5 nofun
      have HG1 := Lib.hid (grow_trans HYG.out hg1)
      clear hg1 OFy HYA HYB HYG HYQ HY HQ d0 d1 d2 d3 d4 d5 d6 d7
      have h4 : rr = 0 ∨ rr = 1 ∨ rr = 2 ∨ rr = 3 := by omega
      rcases h4 with h4 | h4 | h4 | h4
      · have e4 : (rr : Int) = 0 := by omega
        rw [e4]
        clear h4 hrr e4
        have h32 : (hashM 2 (hash ++ l)).length = 32 := hashM_length _ _
        have c32 : (chain).length = 32 := lch
        have k32 : (key) = [] ∨ (key).length = 32 := lky
        have M1 := code_mixhash2 x1 a hash chain key l n hA1 (by omega) (by omega)
        have MB := fun (W : World) (hW : NSt W b 2 hash chain key n) => code_mixhash2 W b hash chain key l n hW (by omega) (by omega)
        unfold Mixed at M1 MB
        generalize hashM 2 (hash ++ l) = V at *
        have H32 := Lib.hid (And.intro h32 (And.intro c32 k32))
        unfold S at M1 MB
        clear h32 c32 k32
        go_wp2_with fail
        (with_reducible refine M1.mono ?_)
        rintro e x2 ⟨rfl, hA2, hg2⟩
        have hB2 := hB1.kept hg2 (by simp; omega)
        have q2 := hg2.cell (a := ⟨q, 5, none⟩) c5 (by simp; omega)
        have MB2 := MB x2 hB2
        have HA2 := Lib.hid hA2
        have HG2 := Lib.hid (grow_trans_new HG1.out hg2 laa)
        clear hA2 hg2 hB2 MB M1 c5 hA1 hB1
        go_wp2_with fail
        (with_reducible refine MB2.mono ?_)
        rintro e x3 ⟨rfl, hB3, hg3⟩
        have hA3 := HA2.out.kept hg3 (by simp; omega)
        have HS1 := code_nhash x3 a 2 V chain key n hA3
        have HS2 := code_nhash x3 b 2 V chain key n hB3
        have HA3 := Lib.hid hA3
        have HB3 := Lib.hid hB3
        have HG3 := Lib.hid (grow_trans_new HG2.out hg3 lbb)
        clear hA3 hB3 hg3 MB2 q2
        unfold S at HS1 HS2
        go_wp2_with fail
        (with_reducible refine HS1.mono ?_)
        rintro e x4 ⟨rfl, rfl⟩
        go_wp2_with fail
        (with_reducible refine HS2.mono ?_)
        rintro e x4 ⟨rfl, rfl⟩
        clear HS1 HS2
        go_wp2_with fail
        go_roundw
        case rel => exact ⟨i + 1, V, chain, key, n, by omega, by go_num, by omega, H32.out.1, H32.out.2.1, H32.out.2.2, HA3, HB3, HG3⟩
        case measure => simp [intOf]; omega
      · have e4 : (rr : Int) = 1 := by omega
        rw [e4]
        clear h4 hrr e4
        have h32 : (hash).length = 32 := lha
        have c32 : (mk1 2 chain l).length = 32 := mk1_length _ _ _
        have k32 : (mk2 2 chain l) = [] ∨ (mk2 2 chain l).length = 32 := Or.inr (mk2_length _ _ _)
        have M1 := code_mixkey2 x1 a hash chain key l n hA1 (by omega) (by omega)
        have MB := fun (W : World) (hW : NSt W b 2 hash chain key n) => code_mixkey2 W b hash chain key l n hW (by omega) (by omega)
        unfold Mixed at M1 MB
        generalize mk1 2 chain l = CC at *
        generalize mk2 2 chain l = KK at *
        have H32 := Lib.hid (And.intro h32 (And.intro c32 k32))
        unfold S at M1 MB
        clear h32 c32 k32
        go_wp2_with fail
        (with_reducible refine M1.mono ?_)
        rintro e x2 ⟨rfl, hA2, hg2⟩
        have hB2 := hB1.kept hg2 (by simp; omega)
        have q2 := hg2.cell (a := ⟨q, 5, none⟩) c5 (by simp; omega)
        have MB2 := MB x2 hB2
        have HA2 := Lib.hid hA2
        have HG2 := Lib.hid (grow_trans_new HG1.out hg2 laa)
        clear hA2 hg2 hB2 MB M1 c5 hA1 hB1
        go_wp2_with fail
        (with_reducible refine MB2.mono ?_)
        rintro e x3 ⟨rfl, hB3, hg3⟩
        have hA3 := HA2.out.kept hg3 (by simp; omega)
        have HS1 := code_nhash x3 a 2 hash CC KK 0 hA3
        have HS2 := code_nhash x3 b 2 hash CC KK 0 hB3
        have HA3 := Lib.hid hA3
        have HB3 := Lib.hid hB3
        have HG3 := Lib.hid (grow_trans_new HG2.out hg3 lbb)
        clear hA3 hB3 hg3 MB2 q2
        unfold S at HS1 HS2
        go_wp2_with fail
        (with_reducible refine HS1.mono ?_)
        rintro e x4 ⟨rfl, rfl⟩
        go_wp2_with fail
        (with_reducible refine HS2.mono ?_)
        rintro e x4 ⟨rfl, rfl⟩
        clear HS1 HS2
        go_wp2_with fail
        go_roundw
        case rel => exact ⟨i + 1, hash, CC, KK, 0, by omega, by go_num, by omega, H32.out.1, H32.out.2.1, H32.out.2.2, HA3, HB3, HG3⟩
        case measure => simp [intOf]; omega
      · have e4 : (rr : Int) = 2 := by omega
        rw [e4]
        clear h4 hrr e4
        have h32 : (hashM 2 (hash ++ mk2 2 chain l)).length = 32 := hashM_length _ _
        have c32 : (mk1 2 chain l).length = 32 := mk1_length _ _ _
        have k32 : (mk3 2 chain l) = [] ∨ (mk3 2 chain l).length = 32 := Or.inr (mk3_length _ _ _)
        have M1 := code_mixboth2 x1 a hash chain key l n hA1 (by omega) (by omega) (by omega)
        have MB := fun (W : World) (hW : NSt W b 2 hash chain key n) => code_mixboth2 W b hash chain key l n hW (by omega) (by omega) (by omega)
        unfold Mixed at M1 MB
        generalize hashM 2 (hash ++ mk2 2 chain l) = V at *
        generalize mk1 2 chain l = CC at *
        generalize mk3 2 chain l = KK at *
        have H32 := Lib.hid (And.intro h32 (And.intro c32 k32))
        unfold S at M1 MB
        clear h32 c32 k32
        go_wp2_with fail
        (with_reducible refine M1.mono ?_)
        rintro e x2 ⟨rfl, hA2, hg2⟩
        have hB2 := hB1.kept hg2 (by simp; omega)
        have q2 := hg2.cell (a := ⟨q, 5, none⟩) c5 (by simp; omega)
        have MB2 := MB x2 hB2
        have HA2 := Lib.hid hA2
        have HG2 := Lib.hid (grow_trans_new HG1.out hg2 laa)
        clear hA2 hg2 hB2 MB M1 c5 hA1 hB1
        go_wp2_with fail
        (with_reducible refine MB2.mono ?_)
        rintro e x3 ⟨rfl, hB3, hg3⟩
        have hA3 := HA2.out.kept hg3 (by simp; omega)
        have HS1 := code_nhash x3 a 2 V CC KK 0 hA3
        have HS2 := code_nhash x3 b 2 V CC KK 0 hB3
        have HA3 := Lib.hid hA3
        have HB3 := Lib.hid hB3
        have HG3 := Lib.hid (grow_trans_new HG2.out hg3 lbb)
        clear hA3 hB3 hg3 MB2 q2
        unfold S at HS1 HS2
        go_wp2_with fail
        (with_reducible refine HS1.mono ?_)
        rintro e x4 ⟨rfl, rfl⟩
        go_wp2_with fail
        (with_reducible refine HS2.mono ?_)
        rintro e x4 ⟨rfl, rfl⟩
        clear HS1 HS2
        go_wp2_with fail
        go_roundw
        case rel => exact ⟨i + 1, V, CC, KK, 0, by omega, by go_num, by omega, H32.out.1, H32.out.2.1, H32.out.2.2, HA3, HB3, HG3⟩
        case measure => simp [intOf]; omega
      · have e4 : (rr : Int) = 3 := by omega
        rw [e4]
        clear h4 hrr e4
        rcases lky with rfl | lky
        · have AS := code_nSeal_nokey2 x1 a hash chain l n hA1
          have HA1 := Lib.hid hA1
          have HB1 := Lib.hid hB1
          unfold S at AS
          clear hA1 hB1
          go_wp2_with fail
          (with_reducible refine AS.mono ?_)
          rintro e x2 ⟨rfl, rfl⟩
          clear AS c5
          go_wp2_with fail
          go_roundw
          case rel => exact ⟨i + 1, hash, chain, [], n, by omega, by go_num, by omega, lha, lch, Or.inl rfl, HA1, HB1, HG1⟩
          case measure => simp [intOf]; omega
        · by_cases h2000 : 2000 < l.length
          · have AS := stSeal2_err x1 a hash chain key l [] n 2 rfl hA1 lky (by omega) (fun W => mlarge2 W key hash l n lky (by omega) h2000)
            have HA1 := Lib.hid hA1
            have HB1 := Lib.hid hB1
            unfold S at AS
            clear hA1 hB1
            go_wp2_with fail
            (with_reducible refine AS.mono ?_)
            rintro e x2 ⟨rfl, hg2⟩
            have HA2 := Lib.hid (HA1.out.kept hg2 nofun)
            have HB2 := Lib.hid (HB1.out.kept hg2 nofun)
            have HG2 := Lib.hid (grow_trans HG1.out hg2)
            clear AS c5 hg2
            go_wp2_with fail
            go_roundw
            case rel => exact ⟨i + 1, hash, chain, key, n, by omega, by go_num, by omega, lha, lch, Or.inr lky, HA2, HB2, HG2⟩
            case measure => simp [intOf]; omega
          · have lct := sealN_length 2 key n hash l lky
            have AS := stSeal2_ok x1 a hash chain key l (sealN 2 key n hash l) n hA1 lky (by omega) (by omega) (by omega) (fun W => mseal2 W key hash l n lky (by omega) (by omega))
            have AO := fun (W : World) (hW : NSt W b 2 hash chain key n) => stOpen2_ok W b hash chain key (sealN 2 key n hash l) l n hW lky (by omega) (by omega) (by omega) (fun W => mopen2 W key hash l n lky (by omega) (by omega))
            have h32 : (hashM 2 (hash ++ sealN 2 key n hash l)).length = 32 := hashM_length _ _
            generalize hashM 2 (hash ++ sealN 2 key n hash l) = V at *
            generalize sealN 2 key n hash l = ct at *
            have HH32 := Lib.hid h32
            unfold S at AS AO
            clear h32 lct
            go_wp2_with fail
            (with_reducible refine AS.mono ?_)
            rintro e x2 ⟨rfl, hA2, hg2⟩
            have hB2 := hB1.kept hg2 (by simp; omega)
            have q2 := hg2.cell (a := ⟨q, 5, none⟩) c5 (by simp; omega)
            have AO2 := AO x2 hB2
            have HA2 := Lib.hid hA2
            have HG2 := Lib.hid (grow_trans_new HG1.out hg2 laa)
            clear hA2 hg2 hB2 AO AS c5 hA1 hB1
            go_wp2_with fail
            (with_reducible refine AO2.mono ?_)
            rintro e x3 ⟨rfl, hB3, hg3⟩
            have q3 := hg3.cell (a := ⟨q, 5, none⟩) q2 (by simp; omega)
            have hA3 := HA2.out.kept hg3 (by simp; omega)
            have HS1 := code_nhash x3 a 2 V chain key (n + 1) hA3
            have HS2 := code_nhash x3 b 2 V chain key (n + 1) hB3
            have HA3 := Lib.hid hA3
            have HB3 := Lib.hid hB3
            have HG3 := Lib.hid (grow_trans_new HG2.out hg3 lbb)
            unfold S at HS1 HS2
            clear hA3 hB3 hg3 AO2 q2
            go_wp2_with fail
            (with_reducible refine HS1.mono ?_)
            rintro e x4 ⟨rfl, rfl⟩
            go_wp2_with fail
            (with_reducible refine HS2.mono ?_)
            rintro e x4 ⟨rfl, rfl⟩
            clear HS1 HS2 q3
            go_wp2_with fail
            go_roundw
            case rel => exact ⟨i + 1, V, chain, key, n + 1, by omega, by go_num, by omega, HH32.out, lch, Or.inr lky, HA3, HB3, HG3⟩
            case measure => simp [intOf]; omega
    · obtain rfl : i = len2 := by omega
      have P1 := code_nsplit2 wr a hash chain key n hA.out (by omega)
      have P2 := fun (W : World) (hW : NSt W b 2 hash chain key n) => code_nsplit2 W b hash chain key n hW (by omega)
      have e1 := mk1_length 2 chain []
      have e2 := mk2_length 2 chain []
      generalize mk1 2 chain [] = V1 at *
      generalize mk2 2 chain [] = V2 at *
      have q1 : ((V1.length : Int) == 32) = true := by rw [e1]; rfl
      have q2 : ((V2.length : Int) == 32) = true := by rw [e2]; rfl
      unfold S at P1 P2
      clear e1 e2
      go_wp2_with fail
      (with_reducible refine P1.mono ?_)
      rintro e x2 ⟨rfl, hg2⟩
      have P3 := P2 x2 (hB.out.kept hg2 nofun)
      have HG2 := Lib.hid (grow_trans hg.out hg2)
      clear hg2 P1 P2
      go_wp2_with fail
      (with_reducible refine P3.mono ?_)
      rintro e x3 ⟨rfl, hg3⟩
      have HG3 := Lib.hid (grow_trans HG2.out hg3)
      clear hg3 P3
      go_wp2_with fail
      go_ret
      exact ⟨rfl, grow_below HG3.out _ (Nat.le_refl _) (by simp)⟩

theorem walk_NoiseMeets (x0 : Int) (s1 : ByteArray) (a2 : Option Addr) (len2 cap2 : Nat) (w0 : (Lit.int .i64 x0).wf = true) (w1 : s1.size ≤ maxLen) (w : World) (r2 : IsRecs stepKs w a2 len2 cap2) (u1 : s1.size ≤ 1048576) (u2 : IsSteps w a2 len2 cap2 1048576) :
    Calls Tryz.prog 4 #[.int .i64 x0, .string s1, .slice a2 len2 cap2] w fun e w' => e = .returned (.bool true) ∧ Below w.heap.size w w' := by
  obtain ⟨pro, rfl, hp⟩ := list_of s1
  rw [← hp] at u1
  have w0' := wf_i64_of w0
  obtain ⟨r, hr, R⟩ := rest_nat x0 2 2 rfl w0'.1 w0'.2 (by omega) (by omega)
  have : r = 0 ∨ r = 1 := by omega
  rcases this with rfl | rfl
  · exact meets1 x0 pro a2 len2 cap2 w u1 0 rfl R u2
  · exact meets2 x0 pro a2 len2 cap2 w u1 1 rfl R u2

end Go.Proofs.YtffeekfofbcobaaGreat
