/- ChaCha: a state, stirred. -/
import Derived.Test.YtcmncdaojmkfgaaGreatDoorStir1
import Derived.Test.YtcmncdaojmkfgaaGreatDoorQ02
namespace Go.Proofs.YtcmncdaojmkfgaaGreatDoor
open Go.RowKit
set_option linter.unusedVariables false

/-- The four columns, the first k of them; the diagonals likewise. -/
def colsK (l : List Nat) : Nat → List Nat
  | 0 => l
  | k + 1 => qset k (4 + k) (8 + k) (12 + k) (colsK l k)
def diagK (l : List Nat) : Nat → List Nat
  | 0 => l
  | k + 1 => qset k (4 + (k + 1) % 4) (8 + (k + 2) % 4) (12 + (k + 3) % 4) (diagK l k)
def roundsK (l : List Nat) : Nat → List Nat
  | 0 => l
  | k + 1 => diagK (colsK (roundsK l k) 4) 4
def stirred (l : List Nat) : List Nat := roundsK l 10

theorem getD_set_small {l : List Nat} (h : Small l) (i n : Nat) (hn : n < 4294967296) : Small (l.set i n) := by
  intro j
  have := h j
  rw [List.getD_eq_getElem?_getD] at this ⊢
  rw [List.getElem?_set]
  by_cases e : i = j
  · subst e
    by_cases q : i < l.length
    · simp [q, hn]
    · simp [q]
  · simp only [e, if_false]
    exact this

theorem qset_small {l : List Nat} (h : Small l) (a b c d : Nat) : Small (qset a b c d l) := by
  have ok : Ok4 (qquarter (l.getD a 0, l.getD b 0, l.getD c 0, l.getD d 0)) := by
    unfold qquarter
    exact qstep_ok _ _ _ (qstep_ok _ _ _ ⟨h a, h b, h c, h d⟩)
  unfold qset
  generalize qquarter (l.getD a 0, l.getD b 0, l.getD c 0, l.getD d 0) = q at *
  obtain ⟨x, y, z, t⟩ := q
  obtain ⟨h1, h2, h3, h4⟩ := ok
  exact getD_set_small (getD_set_small (getD_set_small (getD_set_small h _ _ h1) _ _ h2) _ _ h3) _ _ h4

theorem qset_length (a b c d : Nat) (l : List Nat) : (qset a b c d l).length = l.length := by simp [qset]

theorem colsK_ok {l : List Nat} (h : Small l) (hl : l.length = 16) (k : Nat) : Small (colsK l k) ∧ (colsK l k).length = 16 := by
  induction k with
  | zero => exact ⟨h, hl⟩
  | succ k ih => exact ⟨qset_small ih.1 _ _ _ _, by rw [colsK, qset_length]; exact ih.2⟩

theorem diagK_ok {l : List Nat} (h : Small l) (hl : l.length = 16) (k : Nat) : Small (diagK l k) ∧ (diagK l k).length = 16 := by
  induction k with
  | zero => exact ⟨h, hl⟩
  | succ k ih => exact ⟨qset_small ih.1 _ _ _ _, by rw [diagK, qset_length]; exact ih.2⟩

theorem roundsK_ok {l : List Nat} (h : Small l) (hl : l.length = 16) (k : Nat) : Small (roundsK l k) ∧ (roundsK l k).length = 16 := by
  induction k with
  | zero => exact ⟨h, hl⟩
  | succ k ih =>
    have c := colsK_ok ih.1 ih.2 4
    exact diagK_ok c.1 c.2 4

def zero16 : List Value := List.replicate 16 (.int .u32 0)

theorem info16 : (Tryz.prog.info? 216).map (·.size) = some 16 := by kernel_rfl

theorem wcells_mem (l : List Nat) : ∀ v ∈ l.map wcell, v.oneCell' = true := by
  intro v hv
  obtain ⟨n, _, rfl⟩ := List.mem_map.1 hv
  rfl

theorem wcells_one (l : List Nat) : (l.map wcell).toArray.all (·.oneCell') = true := by
  refine all_oneCell_toArray fun v hv => ?_
  obtain ⟨n, _, rfl⟩ := List.mem_map.1 hv
  rfl

set_option maxRecDepth 20000 in
set_option maxHeartbeats 2000000 in
theorem code_stirred (w : World) (l : List Nat) (hl : l.length = 16) (hx : Small l) :
    Calls Tryz.prog 153 #[A16 l] w fun e w' => e = .returned (A16 (stirred l)) ∧ w.grownBy w' none := by
  have HR := roundsK_ok hx hl
  obtain ⟨B, hBe⟩ : ∃ B, B = w.heap.size := ⟨_, rfl⟩
  obtain ⟨x, hxe⟩ : ∃ x, x = (w.alloc (.cells (l.map wcell).toArray 216)).alloc (.cells zero16.toArray 216) := ⟨_, rfl⟩
  have hBx : WB x B l := by rw [hxe, hBe]; exact obj_alloc (obj_new w _)
  have hB1 : Blk x (B + 1) 216 zero16 := by
    have := Blk.new (w.alloc (.cells (l.map wcell).toArray 216)) 216 zero16
    rw [show (w.alloc (.cells (l.map wcell).toArray 216)).heap.size = B + 1 from by rw [hBe]; simp] at this
    rw [hxe]
    exact this
  have hg0 : w.grownBy x none := by rw [hxe]; exact grow_alloc (grow_alloc (grow_refl w none) _) _
  have hBs : w.heap.size ≤ B := by omega
  have HXE := Lib.hid hxe
  have HBE := Lib.hid hBe
  have HL := Lib.hid hl
  have HZ := Lib.hid hB1
  have HG := Lib.hid hg0
  clear hx hxe hBe hl hB1 hg0
  unfold A16
  go_enter Tryz.func153, Tryz.ntmps153
  go_wp2_with fail
  rw [← HBE.out]
  have hX := HXE.out
  unfold zero16 at hX
  simp only [List.replicate] at hX
  rw [← hX]
  clear hX
  have hu := Tryz.underlying216
  go_loopw [7] (fun vr wr => ∃ r : Nat, r ≤ 10 ∧ vr = .int .i64 r ∧ WB wr B (roundsK l r) ∧ x.grownBy wr (some B)) (fun vr _ => 10 - (intOf vr).toNat)
  case atStart => exact ⟨0, by omega, rfl, hBx, grow_refl _ _⟩
  case round =>
    clear hBx hu
    obtain ⟨r, hr, rfl, hB, hg⟩ := hrel
    by_cases hlt : r < 10
    · have hd : decide ((r : Int) < 10) = true := by simp; omega
      have HRr := Lib.hid (HR r)
      clear HR
      go_wp2_with fail
      go_loopw [9] (fun vk wr => ∃ k : Nat, k ≤ 4 ∧ vk = .int .i64 k ∧ WB wr B (colsK (roundsK l r) k) ∧ x.grownBy wr (some B)) (fun vk _ => 4 - (intOf vk).toNat)
      case atStart => exact ⟨0, by omega, rfl, hB, hg⟩
      case round =>
        clear hB hg
        obtain ⟨k, hk, rfl, hB, hg⟩ := hrel
        by_cases hlk : k < 4
        · have hok := colsK_ok HRr.out.1 HRr.out.2 k
          go_wp2_with fail
          refine (code_stir1 _ B (colsK (roundsK l r) k) k (4 + k) (8 + k) (12 + k) hB hok.2 hok.1 (by omega) (by omega) (by omega) (by omega) (by omega) (by omega) (by omega) (by omega) (by omega) (by omega)).mono ?_
          rintro e w1 ⟨rfl, hB1, hg1⟩
          go_wp2_with fail
          go_roundw
          case rel => exact ⟨k + 1, by omega, by go_num, hB1, grow_trans hg hg1⟩
          case measure => simp [intOf]; omega
        · obtain rfl : k = 4 := by omega
          rw [show Value.int .i64 ((4 : Nat) : Int) = Value.int .i64 4 from rfl]
          have HC := Lib.hid (colsK_ok HRr.out.1 HRr.out.2 4)
          go_wp2_with fail
          go_loopw [22] (fun vk wr => ∃ k : Nat, k ≤ 4 ∧ vk = .int .i64 k ∧ WB wr B (diagK (colsK (roundsK l r) 4) k) ∧ x.grownBy wr (some B)) (fun vk _ => 4 - (intOf vk).toNat)
          case atStart => exact ⟨0, by omega, rfl, hB, hg⟩
          case round =>
            clear hB hg
            obtain ⟨k, hk, rfl, hB, hg⟩ := hrel
            by_cases hlk : k < 4
            · have hok := diagK_ok HC.out.1 HC.out.2 k
              go_wp2_with fail
              refine (code_stir1 _ B (diagK (colsK (roundsK l r) 4) k) k (4 + (k + 1) % 4) (8 + (k + 2) % 4) (12 + (k + 3) % 4) hB hok.2 hok.1 (by omega) (by omega) (by omega) (by omega) (by omega) (by omega) (by omega) (by omega) (by omega) (by omega)).mono ?_
              rintro e w1 ⟨rfl, hB1, hg1⟩
              go_wp2_with fail
              go_roundw
              case rel => exact ⟨k + 1, by omega, by go_num, hB1, grow_trans hg hg1⟩
              case measure => simp [intOf]; omega
            · obtain rfl : k = 4 := by omega
              go_wp2_with fail
              go_roundw
              case rel => exact ⟨r + 1, by omega, by go_num, hB, hg⟩
              case measure => simp [intOf]; omega
    · obtain rfl : r = 10 := by omega
      have hle := (HR 10).2
      clear HR
      obtain ⟨L, hL⟩ : ∃ L, L = roundsK l 10 := ⟨_, rfl⟩
      have HLL := Lib.hid (show Value.agg ((stirred l).map wcell).toArray = .agg (L.map wcell).toArray from by rw [hL]; rfl)
      rw [← hL] at hle hB
      clear hL
      have hB' : Blk wr B 216 ((L).map wcell) := hB
      have hZ := (HZ.out).kept hg (by simp)
      have hi2 : (Tryz.prog.info? 216).map (·.size) = some ((L).map wcell).length := by rw [List.length_map, hle]; exact info16
      have hi3 : (Tryz.prog.info? 216).map (·.size) = some ((L).map wcell).toArray.size := by rw [List.size_toArray]; exact hi2
      have hth : wr.there (B + 1) 0 ((L).map wcell).toArray.size := hZ.there _ (by simp [zero16, hle])
      have HI := Lib.hid hi2
      have HI3 := Lib.hid hi3
      have HT := Lib.hid hth
      have HRg := Lib.hid hB'.range
      clear hi2 hi3 hth hZ
      go_upto_region 15 with (fail)
      refine wp_region_lit ?_
      refine wpList_load_mid rfl 216 _ rfl B 0 rfl ((L).map wcell) _ HRg.out Tryz.underlying216 rfl HI.out ?_
      refine wpList_store_mid rfl 216 _ _ rfl (B + 1) 0 ((L).map wcell).toArray rfl rfl HT.out HI3.out (wcells_one _) ?_
      refine wpList_nil ?_
      have hW := ((HZ.out).kept hg (by simp)).store ((L).map wcell) (by simpa [zero16] using hle)
      have hgW : w.grownBy (wr.setCells (B + 1) 0 ((L).map wcell).toArray.toList) none := grow_setCells_new (grow_trans_new HG.out hg hBs) (B + 1) (by omega) _ _
      go_wp2_with fail
      refine bodyPost_ret (v := .agg ((L).map wcell).toArray) (results_row Tryz.results153 _ _ (B + 1) rfl ((L).map wcell) _ hW Tryz.underlying216 rfl HI.out) rfl ?_
      exact ⟨by rw [HLL.out], hgW⟩

end Go.Proofs.YtcmncdaojmkfgaaGreatDoor
