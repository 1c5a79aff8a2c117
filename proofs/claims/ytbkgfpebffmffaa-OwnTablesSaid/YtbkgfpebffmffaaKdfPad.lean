/- Keys of keys: the pad of a key. -/
import Derived.Test.YtbkgfpebffmffaaZeros
import Derived.Test.YtbkgfpebffmffaaRow
import Derived.Test.YtbkgfpebffmffaaByRow
import Derived.Test.YtbkgfpebffmffaaIndexRow
import Derived.Laws.BitsAllLaws
namespace Go.Proofs.Ytbkgfpebffmffaa
open Go.RowKit
set_option linter.unusedVariables false

/-- The first i are turned. -/
def kmapK (f : UInt8 → UInt8) (l : List UInt8) (i : Nat) : List UInt8 := (l.map f).take i ++ l.drop i
theorem kmapK_zero (f : UInt8 → UInt8) (l : List UInt8) : kmapK f l 0 = l := rfl
theorem kmapK_all (f : UInt8 → UInt8) (l : List UInt8) (n : Nat) (h : l.length = n) : kmapK f l n = l.map f := by
  subst h
  unfold kmapK
  rw [List.drop_length, List.append_nil, List.take_of_length_le (by simp)]
theorem kmapK_length (f : UInt8 → UInt8) (l : List UInt8) (i : Nat) : (kmapK f l i).length = l.length := by
  unfold kmapK
  rw [List.length_append, List.length_take, List.length_drop, List.length_map]
  omega
theorem kmapK_at (f : UInt8 → UInt8) (l : List UInt8) (i : Nat) (h : i < l.length) : (kmapK f l i)[i]'(by rw [kmapK_length]; exact h) = l[i] := by
  unfold kmapK
  rw [List.getElem_append_right (by rw [List.length_take]; omega)]
  simp [Nat.min_eq_left (Nat.le_of_lt h)]
theorem kmapK_set (f : UInt8 → UInt8) (l : List UInt8) (i : Nat) (h : i < l.length) : (kmapK f l i).set i (f l[i]) = kmapK f l (i + 1) := by
  unfold kmapK
  rw [List.set_append_right _ _ (by rw [List.length_take]; omega), List.length_take, List.length_map, Nat.min_eq_left (Nat.le_of_lt h), Nat.sub_self]
  have e : l.drop i = l[i] :: l.drop (i + 1) := List.drop_eq_getElem_cons h
  rw [List.take_succ_eq_append_getElem (by simpa using h)]
  simp
  rw [e]
  rfl

/-- 'copy(b[:], text)': as many bytes as both have. -/
theorem run_copy_upto {P : Program} (w : World) (dT sT ty elem : TypeId) (b o dLen dCap : Nat) (l : List UInt8)
    (hu : P.underlying dT = some (.slice elem)) (hz : ∀ w, (Go.sizeOf elem).run P w = .ok 1 w)
    (hc : ∀ j, j < (l.take dLen).length → (w.cell? ⟨b, o + j, none⟩).isSome = true) (hf : ∀ j, j < (l.take dLen).length → w.frozen? ⟨b, o + j, none⟩ = false) :
    (Builtin.copy_ #[dT, sT] ty #[.slice (some ⟨b, o, none⟩) dLen dCap, .string ⟨l.toArray⟩]).run P w = .ok (goInt (Nat.min l.length dLen : Nat)) (w.setCells b o ((l.take dLen).map bcell)) := by
  have hst := run_storeCells_cells (P := P) b o ((l.take dLen).map bcell) 0 w (by rw [List.length_map]; simpa using hc) (by rw [List.length_map]; simpa using hf) (by
    intro v hv
    obtain ⟨x, _, rfl⟩ := List.mem_map.1 hv
    rfl)
  simp only [Nat.add_zero] at hst
  have e : (l.map fun x => Value.int IntKind.u8 (x.toNat : Int)).take (Nat.min l.length dLen) = (l.take dLen).map bcell := by
    rw [← List.map_take]
    show (l.take (min l.length dLen)).map bcell = _
    rw [Nat.min_comm, ← List.take_take, List.take_length]
  simp [Builtin.copy_, run_underlying hu, Builtin.lenOf, Builtin.firstCells, hz]
  rw [show (ByteArray.mk l.toArray).size = l.length from by simp [ByteArray.size], e, hst]
  simp only [Result.andThen_ok, ← List.map_take]

def padM (key : List UInt8) (c : UInt8) : List UInt8 := (sizedL key 64).map fun x => x ^^^ c
theorem padM_length (key : List UInt8) (c : UInt8) : (padM key c).length = 64 := by unfold padM; rw [List.length_map, sizedL_length]
def PB (w : World) (B : Nat) (l : List UInt8) : Prop := Blk w B 68 (l.map bcell)
theorem PB.bys {w : World} {B : Nat} {l : List UInt8} (h : PB w B l) : Bys w B l := fun i hi => ⟨by rw [Blk.cell h, List.getElem?_map, List.getElem?_eq_getElem hi]; rfl, Blk.frozen h i⟩
theorem info_u8s : (Try.prog.info? 5).map (·.size) = some 1 := by kernel_rfl
theorem xor_u8 (a c : UInt8) : bits .xor .u8 (a.toNat : Int) (c.toNat : Int) = (((a ^^^ c).toNat : Nat) : Int) := by
  rw [u8_xor_nat _ _ (u8_lt a) (u8_lt c), UInt8.toNat_xor]
theorem pad_copied {w : World} {B : Nat} (h : PB w B (zerosL 64)) (key : List UInt8) (hk : key.length ≤ 64) : PB (w.setCells B 0 ((key.take 64).map bcell)) B (sizedL key 64) := by
  rcases setCells_obj B ((key.take 64).map bcell) 0 w ((zerosL 64).map bcell) 68 h with h1 | h1
  · have e : (((zerosL 64).map bcell).take 0 ++ (key.take 64).map bcell ++ ((zerosL 64).map bcell).drop (0 + ((key.take 64).map bcell).length)).take ((zerosL 64).map bcell).length = (sizedL key 64).map bcell := by
      have e1 : (zerosL 64).drop key.length = zerosL (64 - key.length) := by unfold zerosL; rw [List.drop_replicate]
      rw [List.take_zero, List.nil_append, Nat.zero_add, List.length_map, List.length_map, List.take_of_length_le hk, ← List.map_drop, e1, ← List.map_append, ← List.map_take]
      unfold sizedL
      rw [List.take_of_length_le hk, List.take_of_length_le (by simp [zerosL]; omega)]
    rw [e] at h1
    exact h1
  · exfalso
    simp [zerosL] at h1
    omega

set_option maxRecDepth 20000 in
set_option maxHeartbeats 2000000 in
theorem code_pad (w : World) (key : List UInt8) (c : UInt8) (hk : key.length ≤ 64) : Calls Try.prog 24 #[S key, .int .u8 (c.toNat : Int)] w (Grown (S (padM key c)) w) := by
  obtain ⟨B, hB⟩ : ∃ B, B = w.heap.size := ⟨_, rfl⟩
  obtain ⟨x, hx⟩ : ∃ x, x = w.alloc (.cells #[.int .u8 0, .int .u8 0, .int .u8 0, .int .u8 0, .int .u8 0, .int .u8 0, .int .u8 0, .int .u8 0, .int .u8 0, .int .u8 0, .int .u8 0, .int .u8 0, .int .u8 0, .int .u8 0, .int .u8 0, .int .u8 0, .int .u8 0, .int .u8 0, .int .u8 0, .int .u8 0, .int .u8 0, .int .u8 0, .int .u8 0, .int .u8 0, .int .u8 0, .int .u8 0, .int .u8 0, .int .u8 0, .int .u8 0, .int .u8 0, .int .u8 0, .int .u8 0, .int .u8 0, .int .u8 0, .int .u8 0, .int .u8 0, .int .u8 0, .int .u8 0, .int .u8 0, .int .u8 0, .int .u8 0, .int .u8 0, .int .u8 0, .int .u8 0, .int .u8 0, .int .u8 0, .int .u8 0, .int .u8 0, .int .u8 0, .int .u8 0, .int .u8 0, .int .u8 0, .int .u8 0, .int .u8 0, .int .u8 0, .int .u8 0, .int .u8 0, .int .u8 0, .int .u8 0, .int .u8 0, .int .u8 0, .int .u8 0, .int .u8 0, .int .u8 0] 68) := ⟨_, rfl⟩
  have bz : PB x B (zerosL 64) := by rw [hx, hB]; exact obj_new _ _
  have hgx : w.grownBy x none := by rw [hx]; exact grow_alloc (grow_refl w none) _
  have hcp := run_copy_upto (P := Try.prog) x 61 9 3 5 B 0 64 64 key Try.underlying61 (fun W => size_of_info info_u8s W)
    (fun j hj => by rw [Nat.zero_add, Blk.cell bz j, List.getElem?_eq_getElem (by rw [List.length_take] at hj; simp [zerosL]; omega)]; rfl) (fun j hj => Blk.frozen bz _)
  have b1 := pad_copied bz key hk
  have hg1 : w.grownBy (x.setCells B 0 ((key.take 64).map bcell)) none := grow_setCells_new hgx B (by omega) _ _
  obtain ⟨y, hy⟩ : ∃ y, y = x.setCells B 0 ((key.take 64).map bcell) := ⟨_, rfl⟩
  rw [← hy] at hcp b1 hg1
  have lz := sizedL_length key 64
  have hfin : padM key c = kmapK (fun x => x ^^^ c) (sizedL key 64) 64 := by rw [kmapK_all _ _ 64 lz]; rfl
  obtain ⟨V, hV⟩ : ∃ V, V = padM key c := ⟨_, rfl⟩
  rw [← hV] at hfin ⊢
  obtain ⟨l, hl⟩ : ∃ l, l = sizedL key 64 := ⟨_, rfl⟩
  rw [← hl] at b1 lz hfin
  have HFV := Lib.hid hfin
  have HB1 := Lib.hid b1
  have HG1 := Lib.hid hg1
  have HX := Lib.hid hx
  have HBB := Lib.hid hB
  have HLZ := Lib.hid lz
  have HFIN : Hid (kmapK (fun x => x ^^^ c) l 0 = l) := Lib.hid (kmapK_zero _ _)
  clear hB hx bz hgx b1 hg1 hy lz hfin hl hV
  unfold S
  go_enter Try.func24, Try.ntmps24
  go_upto_region 2 with (fail)
  rw [← HBB.out, ← HX.out]
  go_upto_region 3 with (fail)
  clear hcp
  go_wp2_with fail
  go_loopw [10] (fun v10 wr => ∃ i : Nat, i ≤ 64 ∧ v10 = .int .i64 i ∧ Hid (PB wr B (kmapK (fun x => x ^^^ c) l i)) ∧ Hid (w.grownBy wr none)) (fun v10 _ => 64 - (intOf v10).toNat)
  case atStart => exact ⟨0, by omega, rfl, by rw [HFIN.out]; exact HB1, HG1⟩
  case round =>
    clear HB1 HG1
    obtain ⟨i, hi, rfl, hK, hg⟩ := hrel
    have lm : (kmapK (fun x => x ^^^ c) l i).length = 64 := by rw [kmapK_length, HLZ.out]
    by_cases hlt : i < 64
    · have hil : i < l.length := by rw [HLZ.out]; exact hlt
      have ca : wr.cell? ⟨B, i, none⟩ = some (.int .u8 (l[i].toNat : Int)) := by
        rw [Blk.cell hK.out, List.getElem?_map, List.getElem?_eq_getElem (by omega), kmapK_at _ _ _ hil]
        rfl
      have cf : wr.frozen? ⟨B, i, none⟩ = false := Blk.frozen hK.out i
      have hs := Blk.set hK.out i (bcell (l[i] ^^^ c))
      rw [← List.map_set, kmapK_set (fun x => x ^^^ c) l i hil] at hs
      have xb := xor_u8 l[i] c
      have HS := Lib.hid hs
      have HG := Lib.hid (grow_setCell_new hg.out ⟨B, i, none⟩ (by have := HBB.out; simp; omega) (bcell (l[i] ^^^ c)))
      unfold bcell at HS HG
      clear hs hK hg lm
      generalize (l[i] ^^^ c).toNat = n at *
      generalize l[i].toNat = a at *
      have hd : decide ((i : Int) < 64) = true := by simp; omega
      go_wp2_with fail
      go_roundw
      case rel => exact ⟨i + 1, by omega, by go_num, HS, HG⟩
      case measure => simp [intOf]; omega
    · obtain rfl : i = 64 := by omega
      have hcv := conv_bys (PB.bys hK.out) 64
      rw [lm] at hcv
      rw [← HFV.out] at hcv
      clear hK lm hlt
      go_wp2_with fail
      go_ret
      exact ⟨rfl, hg.out⟩

end Go.Proofs.Ytbkgfpebffmffaa
