/- Blocks as polynomials: Mul, Sum. -/
import Derived.Test.YtmomfbkpniblgaaGreatDoorDgGhash
import Derived.Test.YtmomfbkpniblgaaGreatDoorDg07
import Derived.Lib.LazyBuf
import Derived.Deep.DrawnRows
import Derived.BigRegion
namespace Go.Proofs.YtmomfbkpniblgaaGreatDoor
open Go.RowKit
set_option linter.unusedVariables false

/-- 'copy(b[:], text)': as many bytes as both have. -/
theorem run_copy_min {P : Program} (w : World) (dT sT ty elem : TypeId) (b o dLen dCap : Nat) (l : List UInt8)
    (hu : P.underlying dT = some (.slice elem)) (hz : ∀ w, (Go.sizeOf elem).run P w = .ok 1 w)
    (hc : ∀ j, j < (l.take dLen).length → (w.cell? ⟨b, o + j, none⟩).isSome = true) (hf : ∀ j, j < (l.take dLen).length → w.frozen? ⟨b, o + j, none⟩ = false) :
    (Builtin.copy_ #[dT, sT] ty #[.slice (some ⟨b, o, none⟩) dLen dCap, .string ⟨l.toArray⟩]).run P w = .ok (goInt (Nat.min l.length dLen : Nat)) (w.setCells b o ((l.take dLen).map bcell)) := by
  have hst := run_storeCells_cells (P := P) b o ((l.take dLen).map bcell) 0 w (by rw [List.length_map]; simpa using hc) (by rw [List.length_map]; simpa using hf) (by
    intro v hv
    obtain ⟨x, _, rfl⟩ := List.mem_map.1 hv
    rfl)
  simp only [Nat.add_zero] at hst
  have e : (l.map fun x => Value.int IntKind.u8 (x.toNat : Int)).take (Nat.min l.length dLen) = (l.take dLen).map bcell := by
    rw [← List.map_take]
    show (l.take (min l.length dLen)).map bcell = _
    rw [Nat.min_comm, ← List.take_take, List.take_length]
  simp [Builtin.copy_, run_underlying hu, Builtin.lenOf, Builtin.firstCells, hz]
  rw [show (ByteArray.mk l.toArray).size = l.length from by simp [ByteArray.size], e, hst]
  simp only [Result.andThen_ok, ← List.map_take]

/-- All blocks of a text. -/
def ghF (h : Nat) : Nat → Nat → List UInt8 → Nat
  | 0, y, _ => y
  | f + 1, y, t => if t = [] then y else ghF h f (hmul (y ^^^ bigN (sizedL t 16)) h) (t.drop 16)
def ghS (h y : Nat) (t : List UInt8) : Nat := ghF h t.length y t

theorem ghF_lt {h : Nat} (hh : h < 2 ^ 128) : ∀ (f y : Nat) (t : List UInt8), y < 2 ^ 128 → ghF h f y t < 2 ^ 128
  | 0, y, t, hy => hy
  | f + 1, y, t, hy => by
    rw [ghF]
    split
    · exact hy
    · exact ghF_lt hh f _ _ (hmul_lt _ hh)
theorem ghS_lt {h y : Nat} (hh : h < 2 ^ 128) (hy : y < 2 ^ 128) (t : List UInt8) : ghS h y t < 2 ^ 128 := ghF_lt hh _ _ _ hy

def zero16b : List Value := List.replicate 16 (.int .u8 0)
theorem infoB : (Tryz.prog.info? 224).map (·.size) = some 16 := by kernel_rfl
theorem u8_infoG : (Tryz.prog.info? 5).map (·.size) = some 1 := by kernel_rfl
theorem u8_sizeG (w : World) : (Go.sizeOf 5).run Tryz.prog w = .ok 1 w := by
  have h := u8_infoG
  cases hq : Tryz.prog.info? 5 with
  | none => rw [hq] at h; simp at h
  | some i =>
    rw [hq] at h
    have hi : i.size = 1 := by simpa using h
    simp [sizeOf, typeInfo, hq, hi]

/-- A text copied into sixteen bytes 0. -/
theorem copied {w : World} {B : Nat} {t : TypeId} (h : Blk w B t zero16b) (l : List UInt8) : Blk (w.setCells B 0 ((l.take 16).map bcell)) B t ((sizedL l 16).map bcell) := by
  have hl : (l.take 16).length ≤ 16 := List.length_take_le _ _
  rcases setCells_obj B ((l.take 16).map bcell) 0 w zero16b t h with h1 | h1
  · have e : ((zero16b.take 0 ++ (l.take 16).map bcell ++ zero16b.drop (0 + ((l.take 16).map bcell).length)).take zero16b.length) = (sizedL l 16).map bcell := by
      unfold sizedL zerosL zero16b
      rw [List.take_zero, List.nil_append, Nat.zero_add, List.length_map, List.length_replicate, List.drop_replicate, List.take_of_length_le (by rw [List.length_append, List.length_map, List.length_replicate]; omega), List.map_append]
      congr 1
      rw [List.map_replicate, List.length_take]
      congr 1
      omega
    rw [← e]
    exact h1
  · rw [List.length_map] at h1
    simp [zero16b] at h1
    omega

theorem cut16 (U : List UInt8) : (ByteArray.mk U.toArray).extract (min 16 (U.length : Int)).toNat U.length = ⟨(U.drop 16).toArray⟩ := by
  rw [rule_ext]
  congr 2
  by_cases h : 16 ≤ U.length
  · rw [show (min 16 (U.length : Int)).toNat = 16 from by omega]
    exact List.take_of_length_le (by simp)
  · rw [show (min 16 (U.length : Int)).toNat = U.length from by omega, List.drop_of_length_le (by omega), List.drop_of_length_le (by omega), List.take_nil]

attribute [local go_sem ↓] Go.wp_at_zero Go.wp_at_succ

set_option maxRecDepth 20000 in
set_option maxRecDepth 100000 in
set_option maxHeartbeats 2000000 in
theorem code_gtake (w : World) (Y Hb y : Nat) (h text : List UInt8) (hY : Blk w Y 341 (g2 y)) (hH : w.cell? ⟨Hb, 0, none⟩ = some (S h)) (hne : Hb ≠ Y) (hy : y < 2 ^ 128) (hh : h.length = 16) (hl : text.length ≤ 140737488355328) :
    Calls Tryz.prog 257 #[S text, .pointer (some ⟨Y, 0, none⟩), .pointer (some ⟨Hb, 0, none⟩)] w fun e w' => e = .returned (.tuple #[]) ∧ Blk w' Y 341 (g2 (ghS (bigN h) y text)) ∧ w.grownBy w' (some Y) := by
  have hHl : Hb < w.heap.size := World.block_lt_of_cell? _ _ hH
  have hYl := hY.lt
  have A3 : ∀ W : World, Calls Tryz.prog 259 #[S h] W (Grown (G2 (bigN h)) W) := fun W => code_hread W h hh
  have HH := Lib.hid hh
  have HHC := Lib.hid hH
  have HY := Lib.hid hY
  have hne2 : some (⟨Hb, 0, none⟩ : Addr).block ≠ some Y := by simpa using hne
  clear hh hH hY hne
  unfold S
  go_enter Tryz.func257, Tryz.ntmps257
  go_wp2_with fail
  go_loopw [0, 4] (fun vt v4 wr => ∃ (U : List UInt8) (f z : Nat), vt = .string ⟨U.toArray⟩ ∧ U.length ≤ f ∧ U.length ≤ 140737488355328 ∧ z < 2 ^ 128 ∧ Hid (ghF (bigN h) f z U = ghS (bigN h) y text) ∧ Hid (Blk wr Y 341 (g2 z)) ∧ Hid (w.grownBy wr (some Y))) (fun vt _ _ => match vt with | .string b => b.size | _ => 0)
  case atStart => exact ⟨text, text.length, y, rfl, Nat.le_refl _, hl, hy, Lib.hid rfl, HY, Lib.hid (grow_refl _ _)⟩
  case round =>
    clear HY hy hl
    obtain ⟨U, f, z, rfl, hUf, hUl, hz, hE, hb, hg⟩ := hrel
    by_cases hU : U = []
    · subst hU
      have hfin : z = ghS (bigN h) y text := by
        rw [← hE.out]
        cases f <;> simp [ghF]
      have HF := Lib.hid hfin
      clear hfin
      go_wp2_with fail
      go_end0
      exact ⟨rfl, by rw [← HF.out]; exact hb.out, hg.out⟩
    · have q1 : (!U.isEmpty) = true := by simpa using hU
      have q2 : U.isEmpty = false := by simpa using hU
      obtain ⟨f, rfl⟩ : ∃ f', f = f' + 1 := ⟨f - 1, by have := List.length_pos_iff.2 hU; omega⟩
      have hU1 := List.length_pos_iff.2 hU
      have hnx : Hid (ghF (bigN h) f (hmul (z ^^^ bigN (sizedL U 16)) (bigN h)) (U.drop 16) = ghS (bigN h) y text) := Lib.hid (by
        rw [← hE.out, ghF, if_neg hU])
      have hHr := hg.out.cell (a := ⟨Hb, 0, none⟩) HHC.out hne2
      clear hU
      have hz16 : Blk (wr.alloc (.cells #[Value.int IntKind.u8 0, Value.int IntKind.u8 0, Value.int IntKind.u8 0, Value.int IntKind.u8 0, Value.int IntKind.u8 0, Value.int IntKind.u8 0, Value.int IntKind.u8 0, Value.int IntKind.u8 0, Value.int IntKind.u8 0, Value.int IntKind.u8 0, Value.int IntKind.u8 0, Value.int IntKind.u8 0, Value.int IntKind.u8 0, Value.int IntKind.u8 0, Value.int IntKind.u8 0, Value.int IntKind.u8 0] 224)) wr.heap.size 224 zero16b := Blk.new wr _ zero16b
      have hcp := run_copy_min (P := Tryz.prog) (wr.alloc (.cells #[Value.int IntKind.u8 0, Value.int IntKind.u8 0, Value.int IntKind.u8 0, Value.int IntKind.u8 0, Value.int IntKind.u8 0, Value.int IntKind.u8 0, Value.int IntKind.u8 0, Value.int IntKind.u8 0, Value.int IntKind.u8 0, Value.int IntKind.u8 0, Value.int IntKind.u8 0, Value.int IntKind.u8 0, Value.int IntKind.u8 0, Value.int IntKind.u8 0, Value.int IntKind.u8 0, Value.int IntKind.u8 0] 224)) 83 9 3 5 wr.heap.size 0 16 16 U Tryz.underlying83 u8_sizeG
        (fun j hj => by rw [Nat.zero_add, hz16.cell j]; simp [zero16b]; rw [List.length_take] at hj; omega) (fun j hj => by rw [Nat.zero_add]; exact hz16.frozen j)
      obtain ⟨C, hC⟩ : ∃ C, C = wr.heap.size := ⟨_, rfl⟩
      have hCb : Blk ((wr.alloc (.cells #[Value.int IntKind.u8 0, Value.int IntKind.u8 0, Value.int IntKind.u8 0, Value.int IntKind.u8 0, Value.int IntKind.u8 0, Value.int IntKind.u8 0, Value.int IntKind.u8 0, Value.int IntKind.u8 0, Value.int IntKind.u8 0, Value.int IntKind.u8 0, Value.int IntKind.u8 0, Value.int IntKind.u8 0, Value.int IntKind.u8 0, Value.int IntKind.u8 0, Value.int IntKind.u8 0, Value.int IntKind.u8 0] 224)).setCells wr.heap.size 0 ((U.take 16).map bcell)) wr.heap.size 224 ((sizedL U 16).map bcell) := copied hz16 U
      have hgC : wr.grownBy ((wr.alloc (.cells #[Value.int IntKind.u8 0, Value.int IntKind.u8 0, Value.int IntKind.u8 0, Value.int IntKind.u8 0, Value.int IntKind.u8 0, Value.int IntKind.u8 0, Value.int IntKind.u8 0, Value.int IntKind.u8 0, Value.int IntKind.u8 0, Value.int IntKind.u8 0, Value.int IntKind.u8 0, Value.int IntKind.u8 0, Value.int IntKind.u8 0, Value.int IntKind.u8 0, Value.int IntKind.u8 0, Value.int IntKind.u8 0] 224)).setCells wr.heap.size 0 ((U.take 16).map bcell)) none := grow_setCells_new (grow_alloc (grow_refl wr none) _) _ (Nat.le_refl _) _ _
      go_upto_region 4 with (fail)
      clear hcp hz16
      rw [← hC, List.map_take] at hCb hgC
      rw [← hC]
      generalize (wr.alloc (.cells #[Value.int IntKind.u8 0, Value.int IntKind.u8 0, Value.int IntKind.u8 0, Value.int IntKind.u8 0, Value.int IntKind.u8 0, Value.int IntKind.u8 0, Value.int IntKind.u8 0, Value.int IntKind.u8 0, Value.int IntKind.u8 0, Value.int IntKind.u8 0, Value.int IntKind.u8 0, Value.int IntKind.u8 0, Value.int IntKind.u8 0, Value.int IntKind.u8 0, Value.int IntKind.u8 0, Value.int IntKind.u8 0] 224)).setCells C 0 ((U.map bcell).take 16) = x at *
      have G0 : w.grownBy x.drew (some Y) := grow_drew (grow_trans hg.out (grow_none hgC))
      have S00 : Blk x Y 341 (g2 z) := Blk.kept hb.out hgC nofun
      have S0 : Blk x.drew Y 341 (g2 z) := S00
      obtain ⟨⟨o0, o1⟩, of0, of1⟩ := blk2 S00
      have oh := hgC.cell (a := ⟨Hb, 0, none⟩) hHr nofun
      have lz := sizedL_length U 16
      have hcv : ∀ W : World, W.heap = x.heap → (convert 83 9 (.slice (some ⟨C, 0, none⟩) 16 16)).run Tryz.prog W = .ok (S (sizedL U 16)) W := fun W hW => by
        have hBy : Bys W C (sizedL U 16) := fun i hi => ⟨by
          unfold World.cell?
          rw [hW]
          have := hCb.cell i
          unfold World.cell? at this
          rw [this]
          simp [bcell, hi], by
          unfold World.frozen?
          rw [hW]
          exact hCb.frozen i⟩
        have := conv_bys hBy 16
        rw [lz] at this
        exact this
      have hcv0 := hcv x.drew rfl
      have A1 : ∀ W : World, Calls Tryz.prog 259 #[S (sizedL U 16)] W (Grown (G2 (bigN (sizedL U 16))) W) := fun W => code_hread W _ lz
      have lb := blk_lt (sizedL U 16) lz
      have A2 : ∀ W : World, Calls Tryz.prog 258 #[G2 z, G2 (bigN (sizedL U 16))] W (Grown (G2 (z ^^^ bigN (sizedL U 16))) W) := fun W => code_hplus W _ _ hz lb
      have A4 : ∀ W : World, Calls Tryz.prog 260 #[G2 (z ^^^ bigN (sizedL U 16)), G2 (bigN h)] W (Grown (G2 (hmul (z ^^^ bigN (sizedL U 16)) (bigN h))) W) := fun W => code_htimes W _ _ (hxor_lt hz lb) (blk_lt h HH.out)
      have lm := hmul_lt (z ^^^ bigN (sizedL U 16)) (blk_lt h HH.out)
      have LZ := Lib.hid lm
      have HE2 := Lib.hid hE.out
      generalize sizedL U 16 = sz at *
      clear hcv hCb hgC hb hg hE hHr lb lz S00 hC
      have HS := fun (W : World) (hW : Blk W Y 341 (g2 z)) => Lib.hid (blk2_set hW (.int .u64 ((hi64 (hmul (z ^^^ bigN sz) (bigN h)) : Nat) : Int)) (.int .u64 ((lo64 (hmul (z ^^^ bigN sz) (bigN h)) : Nat) : Int)))
      have HG := fun (W : World) (hW : w.grownBy W (some Y)) => Lib.hid (grow_setCell (grow_setCell hW 0 (.int .u64 ((hi64 (hmul (z ^^^ bigN sz) (bigN h)) : Nat) : Int))) 1 (.int .u64 ((lo64 (hmul (z ^^^ bigN sz) (bigN h)) : Nat) : Int)))
      have hdr : List.take (U.length - 16) (List.drop 16 U) = U.drop 16 := List.take_of_length_le (by simp)
      unfold G2 S at *
      generalize hmul (z ^^^ bigN sz) (bigN h) = m at *
      generalize z ^^^ bigN sz = zx at *
      generalize bigN sz = bs at *
      go_region_with
        (first
          | (go_at_call 259; (with_reducible refine (A1 _).mono ?_); rintro e w3 ⟨rfl, hg3⟩; have G3 := grow_trans G0 (grow_none hg3); have S3 := Blk.kept S0 hg3 nofun; obtain ⟨⟨na0, na1⟩, nf0, nf1⟩ := blk2 S3; have nh := hg3.cell (a := ⟨Hb, 0, none⟩) oh nofun)
          | (go_at_call 258; (with_reducible refine (A2 _).mono ?_); rintro e w4 ⟨rfl, hg4⟩; have G4 := grow_trans G3 (grow_none hg4); have S4 := Blk.kept S3 hg4 nofun; have nh4 := hg4.cell (a := ⟨Hb, 0, none⟩) nh nofun)
          | (go_at_call 259; (with_reducible refine (A3 _).mono ?_); rintro e w5 ⟨rfl, hg5⟩; have G5 := grow_trans G4 (grow_none hg5); have S5 := Blk.kept S4 hg5 nofun)
          | (go_at_call 260; (with_reducible refine (A4 _).mono ?_); rintro e w6 ⟨rfl, hg6⟩; have G6 := grow_trans G5 (grow_none hg6); have S6 := Blk.kept S5 hg6 nofun; obtain ⟨⟨nc0, nc1⟩, nf0, nf1⟩ := blk2 S6))
      all_goals
        have kS := HS w6 S6
        have kG := HG w6 G6
        clear A1 A2 A3 A4 HS HG S6 G6 S5 G5 S4 G4 S3 G3 S0 G0 o0 o1 of0 of1 oh
        go_wp2_with fail
        go_roundw
        case rel => exact ⟨U.drop 16, f, m, by rw [cut16], by rw [List.length_drop]; omega, by rw [List.length_drop]; omega, LZ.out, hnx, kS, kG⟩
        case measure => simp [ByteArray.size]; omega

end Go.Proofs.YtmomfbkpniblgaaGreatDoor
