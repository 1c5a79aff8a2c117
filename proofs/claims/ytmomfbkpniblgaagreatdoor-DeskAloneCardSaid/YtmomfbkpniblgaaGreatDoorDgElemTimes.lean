/- Numbers modulo 2^255 - 19: times. -/
import Derived.Test.YtmomfbkpniblgaaGreatDoorDg13
namespace Go.Proofs.YtmomfbkpniblgaaGreatDoor
open Go.RowKit
set_option linter.unusedVariables false

theorem zcells : wcells [0, 0, 0, 0, 0] = [.int .u64 0, .int .u64 0, .int .u64 0, .int .u64 0, .int .u64 0, .int .u64 0, .int .u64 0, .int .u64 0, .int .u64 0, .int .u64 0] := rfl

/-- What the loops leave. -/
def tmOI (a b : List Nat) (i k : Nat) : List Nat := tmI a b i (tmO a b i) k
theorem tmOI_length (a b : List Nat) (i k : Nat) : (tmOI a b i k).length = 5 := by unfold tmOI; rw [tmI_length, tmO_length]
theorem tmOI_le {a b : List Nat} (ha : ∀ x ∈ a, x ≤ 2251799813685266) (hb : ∀ x ∈ b, x ≤ 2251799813685266) (i k : Nat) (hi : i ≤ 5) (hk : k ≤ 5) : ∀ x ∈ tmOI a b i k, x ≤ 3000000000000000000000000000000000 := by
  intro x hx
  have := tmI_le ha hb (tmO_le ha hb i) i k x hx
  have h1 := Nat.mul_le_mul_right 500000000000000000000000000000000 hi
  have h2 := Nat.mul_le_mul_right 100000000000000000000000000000000 hk
  omega
theorem tmOI_next (a b : List Nat) (i k at' y : Nat) (h1 : (i + k) % 5 = at') (h2 : y = if 5 ≤ i + k then 19 * b.getD k 0 else b.getD k 0) : (tmOI a b i k).set at' ((tmOI a b i k).getD at' 0 + a.getD i 0 * y) = tmOI a b i (k + 1) := by
  unfold tmOI
  rw [tmI, tmS, h1, h2]
theorem getD_at {l : List Nat} {i : Nat} (h : i < l.length) : l.getD i 0 = l[i] := by
  rw [List.getD_eq_getElem?_getD, List.getElem?_eq_getElem h]; rfl

/-- One product goes in. -/
theorem wide_step (w : World) (B : Nat) (a b : List Nat) (i k at' x y : Nat) (ha : ∀ x ∈ a, x ≤ 2251799813685266) (hb : ∀ x ∈ b, x ≤ 2251799813685266) (hi : i ≤ 5) (hk : k ≤ 4) (h1 : (i + k) % 5 = at') (hx : x = a.getD i 0) (h2 : y = if 5 ≤ i + k then 19 * b.getD k 0 else b.getD k 0)
    (h : WBk w B (tmOI a b i k)) : ∃ n : Nat, (∀ W : World, WBk W B (tmOI a b i k) → W.cell? ⟨B, at' * 2, none⟩ = some (.int .u64 (whi n : Nat)) ∧ W.cell? ⟨B, at' * 2 + 1, none⟩ = some (.int .u64 (wlo n : Nat))) ∧
      (∀ W : World, Calls Tryz.prog 141 #[.agg #[.int .u64 (whi n : Nat), .int .u64 (wlo n : Nat)], .int .u64 (x : Int), .int .u64 (y : Int)] W (Grown (.agg #[.int .u64 (whi (n + x * y) : Nat), .int .u64 (wlo (n + x * y) : Nat)]) W)) ∧
      ∀ W : World, WBk W B (tmOI a b i k) → WBk ((W.setCell ⟨B, at' * 2, none⟩ (.int .u64 (whi (n + x * y) : Nat))).setCell ⟨B, at' * 2 + 1, none⟩ (.int .u64 (wlo (n + x * y) : Nat))) B (tmOI a b i (k + 1)) := by
  have hat : at' < (tmOI a b i k).length := by rw [tmOI_length]; omega
  rw [Nat.mul_comm at' 2]
  have hn := tmOI_le ha hb i k hi (by omega) _ (List.getElem_mem hat)
  have hp := prod_le ha hb i k
  rw [← hx, ← h2] at hp
  have hx2 := getD_le ha i
  have hy2 : y ≤ 19 * 2251799813685266 := by
    have := getD_le hb k
    rw [h2]; split <;> omega
  refine ⟨(tmOI a b i k)[at'], fun W hW => hW.cell at' hat, fun W => code_nwide W _ x y (by omega) (by omega) (by omega), fun W hW => ?_⟩
  have := hW.set at' ((tmOI a b i k)[at'] + x * y) hat
  rw [← getD_at hat, hx, tmOI_next a b i k at' y h1 h2, getD_at hat, ← hx] at this
  exact this

/-- The product's limbs when i are carried, and what goes on. -/
def carZ (W : List Nat) (i : Nat) : List Nat := (carF (W.take i) 0).1 ++ List.replicate (5 - i) 0
def carC (W : List Nat) (i : Nat) : Nat := (carF (W.take i) 0).2
theorem carZ_length (W : List Nat) (i : Nat) (hW : W.length = 5) (hi : i ≤ 5) : (carZ W i).length = 5 := by
  unfold carZ
  rw [List.length_append, carF_length, List.length_take, List.length_replicate]
  omega
theorem carZ_next (W : List Nat) (i : Nat) (hW : W.length = 5) (hi : i < W.length) : (carZ W i).set i ((W[i] + carC W i) % 2251799813685248) = carZ W (i + 1) ∧ carC W (i + 1) = (W[i] + carC W i) / 2251799813685248 := by
  have hl : (carF (W.take i) 0).1.length = i := by rw [carF_length, List.length_take]; omega
  have et : W.take (i + 1) = W.take i ++ [W[i]] := List.take_succ_eq_append_getElem hi
  have e : List.replicate (5 - i) 0 = 0 :: List.replicate (5 - (i + 1)) 0 := by
    rw [show 5 - i = (5 - (i + 1)) + 1 from by omega, List.replicate_succ]
  unfold carZ carC
  rw [et, carF_snoc, List.set_append_right _ _ (by omega), hl, Nat.sub_self, e, List.set_cons_zero]
  exact ⟨by rw [List.append_assoc]; rfl, rfl⟩
theorem carC_le (W : List Nat) (hW : ∀ x ∈ W, x ≤ 3000000000000000000000000000000000) (i : Nat) : carC W i ≤ 1400000000000000000 :=
  carF_out 1400000000000000000 _ 0 (fun x hx => by have := hW x (List.mem_of_mem_take hx); omega) (by omega)
theorem carZ_five (W : List Nat) (hW : W.length = 5) : carZ W 5 = (carF W 0).1 ∧ carC W 5 = (carF W 0).2 := by
  unfold carZ carC
  rw [List.take_of_length_le (by omega)]
  simp
theorem tmC_length (W : List Nat) (h : W.length = 5) : (tmC W).length = 5 := by
  unfold tmC
  simp [carF_length, h]
theorem tmC_le (W : List Nat) (h : W.length = 5) (hb : ∀ x ∈ W, x ≤ 3000000000000000000000000000000000) : ∀ x ∈ tmC W, x ≤ 9223372036854775808 := by
  intro x hx
  have hc : (carF W 0).2 ≤ 1400000000000000000 := carF_out 1400000000000000000 _ 0 (fun x hx => by have := hb x hx; omega) (by omega)
  have hs := carF_small W 0
  have g0 := getD_le (M := 2251799813685248) (fun x hx => Nat.le_of_lt (hs x hx)) 0
  have g1 := getD_le (M := 2251799813685248) (fun x hx => Nat.le_of_lt (hs x hx)) 1
  unfold tmC at hx
  rcases List.mem_or_eq_of_mem_set hx with hx | rfl
  · rcases List.mem_or_eq_of_mem_set hx with hx | rfl
    · have := hs x hx; omega
    · omega
  · omega

/-- One wide number, carried. -/
theorem wide_carry (n c : Nat) (hn : n ≤ 3000000000000000000000000000000000) (hc : c ≤ 1400000000000000000) : ∃ s d : Nat, s < 18446744073709551616 ∧ d ≤ 1 ∧
    (∀ w : World, (callFunc 142 #[.int .u64 (wlo n : Nat), .int .u64 c, .int .u64 (0 : Nat)]).run Tryz.prog w = .ok (.value (.tuple #[.int .u64 (s : Int), .int .u64 (d : Int)])) w) ∧
    s % 2251799813685248 = (n + c) % 2251799813685248 ∧ whi n < 163000000000000 ∧ ((whi n + d) * 8192) ||| (s / 2251799813685248) = (n + c) / 2251799813685248 := by
  obtain ⟨s, d, e1, ls, ld, E1⟩ := eadd64_eq (wlo n) c 0 (by omega) (Nat.mod_lt _ (by omega)) (by omega)
  have e : n = wlo n + 18446744073709551616 * whi n := by unfold wlo whi; omega
  have hh : whi n < 163000000000000 := by unfold whi; omega
  refine ⟨s, d, ls, ld, E1, ?_, hh, ?_⟩
  · omega
  · have := @Nat.two_pow_add_eq_or_of_lt 13 (s / 2251799813685248) (by omega) (whi n + d)
    rw [Nat.mul_comm, ← this]
    omega

theorem idxw (w : World) (n0 n1 n2 n3 n4 : Nat) (k : Nat) (hk : k < [n0, n1, n2, n3, n4].length) :
    (Instr.index 214 (.agg #[.int .u64 (whi n0 : Nat), .int .u64 (wlo n0 : Nat), .int .u64 (whi n1 : Nat), .int .u64 (wlo n1 : Nat), .int .u64 (whi n2 : Nat), .int .u64 (wlo n2 : Nat), .int .u64 (whi n3 : Nat), .int .u64 (wlo n3 : Nat), .int .u64 (whi n4 : Nat), .int .u64 (wlo n4 : Nat)]) (.int .i64 (k : Int))).run Tryz.prog w = .ok (.agg #[.int .u64 (whi [n0, n1, n2, n3, n4][k] : Nat), .int .u64 (wlo [n0, n1, n2, n3, n4][k] : Nat)]) w := by
  match k, hk with
  | 0, _ => exact idxw_0 w _ _ _ _ _ _ _ _ _ _
  | 1, _ => exact idxw_1 w _ _ _ _ _ _ _ _ _ _
  | 2, _ => exact idxw_2 w _ _ _ _ _ _ _ _ _ _
  | 3, _ => exact idxw_3 w _ _ _ _ _ _ _ _ _ _
  | 4, _ => exact idxw_4 w _ _ _ _ _ _ _ _ _ _

/-- What the round needs to know. -/
theorem carry_step (W : List Nat) (i c n0 n1 n2 n3 n4 : Nat) (hWl : W.length = 5) (hWb : ∀ x ∈ W, x ≤ 3000000000000000000000000000000000) (eW : W = [n0, n1, n2, n3, n4]) (hi : i < 5) (hc : c = carC W i) :
    ∃ h l s d z c' : Nat, h < 163000000000000 ∧ l < 18446744073709551616 ∧ s < 18446744073709551616 ∧ d ≤ 1 ∧ c' ≤ 1400000000000000000 ∧
    (∀ w : World, (Instr.index 214 (.agg #[.int .u64 (whi n0 : Nat), .int .u64 (wlo n0 : Nat), .int .u64 (whi n1 : Nat), .int .u64 (wlo n1 : Nat), .int .u64 (whi n2 : Nat), .int .u64 (wlo n2 : Nat), .int .u64 (whi n3 : Nat), .int .u64 (wlo n3 : Nat), .int .u64 (whi n4 : Nat), .int .u64 (wlo n4 : Nat)]) (.int .i64 (i : Int))).run Tryz.prog w = .ok (.agg #[.int .u64 (h : Int), .int .u64 (l : Int)]) w) ∧
    (∀ w : World, (callFunc 142 #[.int .u64 (l : Int), .int .u64 (c : Int), .int .u64 0]).run Tryz.prog w = .ok (.value (.tuple #[.int .u64 (s : Int), .int .u64 (d : Int)])) w) ∧
    s % 2251799813685248 = z ∧ ((h + d) * 8192) ||| (s / 2251799813685248) = c' ∧ c' = carC W (i + 1) ∧ (carZ W i).set i z = carZ W (i + 1) := by
  have hk : i < W.length := by omega
  have hn := hWb _ (List.getElem_mem hk)
  have hcb := carC_le W hWb i
  rw [← hc] at hcb
  obtain ⟨s, d, ls, ld, E1, e1, hh, e2⟩ := wide_carry W[i] c hn hcb
  obtain ⟨g1, g2⟩ := carZ_next W i hWl hk
  have hcb2 := carC_le W hWb (i + 1)
  refine ⟨whi W[i], wlo W[i], s, d, _, _, hh, Nat.mod_lt _ (by omega), ls, ld, hcb2, ?_, E1, e1, ?_, rfl, ?_⟩
  · intro w
    subst eW
    exact idxw w n0 n1 n2 n3 n4 i hk
  · rw [e2, g2, hc]
  · rw [hc, g1]

set_option maxRecDepth 20000 in
set_option maxHeartbeats 4000000 in
theorem code_ntimes (w : World) (a b : List Nat) (ha : Ok5 a) (hb : Ok5 b) :
    Calls Tryz.prog 87 #[N5 a, N5 b] w (NumIs (lval a * lval b) w) := by
  obtain ⟨B, hB⟩ : ∃ B, B = w.heap.size := ⟨_, rfl⟩
  have hal := ha.le
  have hbl := hb.le
  obtain ⟨a0, a1, a2, a3, a4, ea⟩ := five ha.length
  obtain ⟨b0, b1, b2, b3, b4, eb⟩ := five hb.length
  obtain ⟨x, hx⟩ : ∃ x, x = (((w.alloc (.cells (a.map c64).toArray 144)).alloc (.cells (b.map c64).toArray 144)).alloc (.cells ([0, 0, 0, 0, 0].map c64).toArray 144)).alloc (.cells (wcells [0, 0, 0, 0, 0]).toArray 214) := ⟨_, rfl⟩
  have s1 : (w.alloc (.cells (a.map c64).toArray 144)).heap.size = B + 1 := by rw [hB]; simp
  have s2 : ((w.alloc (.cells (a.map c64).toArray 144)).alloc (.cells (b.map c64).toArray 144)).heap.size = B + 1 + 1 := by rw [hB]; simp
  have s3 : (((w.alloc (.cells (a.map c64).toArray 144)).alloc (.cells (b.map c64).toArray 144)).alloc (.cells ([0, 0, 0, 0, 0].map c64).toArray 144)).heap.size = B + 1 + 1 + 1 := by rw [hB]; simp
  have bA : NB x B a := by rw [hx, hB]; exact obj_alloc (obj_alloc (obj_alloc (obj_new w _)))
  have bB : NB x (B + 1) b := by rw [hx, ← s1]; exact obj_alloc (obj_alloc (obj_new _ _))
  have bR : NB x (B + 1 + 1) [0, 0, 0, 0, 0] := by rw [hx, ← s2]; exact obj_alloc (obj_new _ _)
  have bW : WBk x (B + 1 + 1 + 1) (tmOI a b 0 0) := by rw [hx, ← s3]; exact obj_new _ _
  have hgx : w.grownBy x none := by rw [hx]; exact grow_alloc (grow_alloc (grow_alloc (grow_alloc (grow_refl w none) _) _) _) _
  have HA := Lib.hid bA
  have HBB := Lib.hid bB
  have HR := Lib.hid bR
  have HW := Lib.hid bW
  have HG := Lib.hid hgx
  have HB := Lib.hid hB
  have HX := Lib.hid hx
  have HEA := Lib.hid ea
  have HEB := Lib.hid eb
  have HAL := Lib.hid hal
  have HBL := Lib.hid hbl
  have HOA := Lib.hid ha
  have HOB := Lib.hid hb
  have kA := bA
  rw [ea] at kA
  obtain ⟨⟨p0, p1, p2, p3, p4⟩, _⟩ := kA.five
  have hN5a : N5 a = .agg #[.int .u64 (a0 : Int), .int .u64 (a1 : Int), .int .u64 (a2 : Int), .int .u64 (a3 : Int), .int .u64 (a4 : Int)] := by rw [ea]; rfl
  have hN5b : N5 b = .agg #[.int .u64 (b0 : Int), .int .u64 (b1 : Int), .int .u64 (b2 : Int), .int .u64 (b3 : Int), .int .u64 (b4 : Int)] := by rw [eb]; rfl
  have hxl : x = (((w.alloc (.cells #[.int .u64 (a0 : Int), .int .u64 (a1 : Int), .int .u64 (a2 : Int), .int .u64 (a3 : Int), .int .u64 (a4 : Int)] 144)).alloc (.cells #[.int .u64 (b0 : Int), .int .u64 (b1 : Int), .int .u64 (b2 : Int), .int .u64 (b3 : Int), .int .u64 (b4 : Int)] 144)).alloc (.cells #[.int .u64 0, .int .u64 0, .int .u64 0, .int .u64 0, .int .u64 0] 144)).alloc (.cells #[.int .u64 0, .int .u64 0, .int .u64 0, .int .u64 0, .int .u64 0, .int .u64 0, .int .u64 0, .int .u64 0, .int .u64 0, .int .u64 0] 214) := by
    rw [hx, ea, eb]; rfl
  have HXL := Lib.hid hxl
  rw [hN5a, hN5b]
  clear bA bB bR bW hgx hB hx ea eb hal hbl ha hb kA hN5a hN5b hxl s1 s2 s3
  go_enter Tryz.func87, Tryz.ntmps87
  go_upto_region 2 with (fail)
  rw [← HB.out, ← HXL.out]
  go_wp2_with fail
  go_loopw [6, 7, 8, 9, 10, 19, 23, 24] (fun v6 v7 v8 v9 v10 vi v23 v24 wr => ∃ i : Nat, i ≤ 5 ∧ vi = .int .i64 i ∧ Hid (WBk wr (B + 1 + 1 + 1) (tmOI a b i 0)) ∧ Hid (x.grownBy wr (some (B + 1 + 1 + 1)))) (fun _ _ _ _ _ vi _ _ _ => 5 - (intOf vi).toNat)
  case atStart => exact ⟨0, by omega, rfl, HW, Lib.hid (grow_refl _ _)⟩
  case round =>
    clear HW p0 p1 p2 p3 p4
    obtain ⟨i, hi, rfl, hW, hg⟩ := hrel
    by_cases hli : i < 5
    · have hd : decide ((i : Int) < 5) = true := by simp; omega
      obtain ⟨xa, hxa⟩ : ∃ xa, xa = a.getD i 0 := ⟨_, rfl⟩
      have ix : ∀ W : World, (Instr.index 144 (.agg #[.int .u64 (a0 : Int), .int .u64 (a1 : Int), .int .u64 (a2 : Int), .int .u64 (a3 : Int), .int .u64 (a4 : Int)]) (.int .i64 (i : Int))).run Tryz.prog W = .ok (.int .u64 (xa : Int)) W := fun W => by
        have := idx5 W a0 a1 a2 a3 a4 i (by simpa using hli)
        rw [this, hxa, HEA.out, getD_at (by simpa using hli)]
      have HXA := Lib.hid hxa
      clear hxa
      have bB : NB wr (B + 1) b := Blk.kept HBB.out hg.out (by simp)
      rw [HEB.out] at bB
      obtain ⟨⟨p0, p1, p2, p3, p4⟩, _⟩ := bB.five
      clear bB
      go_wp2_with fail
      clear p0 p1 p2 p3 p4 ix
      go_loopw [8, 9, 10, 24] (fun v8 v9 v10 vk wr => ∃ k : Nat, k ≤ 5 ∧ vk = .int .i64 k ∧ Hid (WBk wr (B + 1 + 1 + 1) (tmOI a b i k)) ∧ Hid (x.grownBy wr (some (B + 1 + 1 + 1)))) (fun _ _ _ vk _ => 5 - (intOf vk).toNat)
      case atStart => exact ⟨0, by omega, rfl, hW, hg⟩
      case round =>
        clear hW hg
        obtain ⟨k, hk, rfl, hW, hg⟩ := hrel
        by_cases hlk : k < 5
        · obtain ⟨yb, hyb⟩ : ∃ yb, yb = b.getD k 0 := ⟨_, rfl⟩
          have iy : ∀ W : World, (Instr.index 144 (.agg #[.int .u64 (b0 : Int), .int .u64 (b1 : Int), .int .u64 (b2 : Int), .int .u64 (b3 : Int), .int .u64 (b4 : Int)]) (.int .i64 (k : Int))).run Tryz.prog W = .ok (.int .u64 (yb : Int)) W := fun W => by
            have := idx5 W b0 b1 b2 b3 b4 k (by simpa using hlk)
            rw [this, hyb, HEB.out, getD_at (by simpa using hlk)]
          have hbk := getD_le HBL.out k
          rw [← hyb] at hbk
          have HYB := Lib.hid hyb
          clear hyb
          by_cases h5 : 5 ≤ i + k
          · obtain ⟨at', hat, hat2⟩ : ∃ at' : Nat, (i + k) % 5 = at' ∧ (i : Int) + (k : Int) - 5 = (at' : Int) := ⟨(i + k) % 5, rfl, by omega⟩
            obtain ⟨y, hy, hy2⟩ : ∃ y : Nat, y = (if 5 ≤ i + k then 19 * b.getD k 0 else b.getD k 0) ∧ 19 * (yb : Int) = (y : Int) := ⟨_, rfl, by rw [if_pos h5, HYB.out]; simp⟩
            have w19 : IntKind.u64.wrap (19 * (yb : Int)) = 19 * (yb : Int) := IntWalk.u64_in _ (by omega)
            have w20 : IntKind.u64.wrap (y : Int) = (y : Int) := IntWalk.u64_in _ (by omega)
            have q : (5 : Int) ≤ (i : Int) + (k : Int) := by omega
            obtain ⟨n, hcells, hcall, hset⟩ := wide_step wr (B + 1 + 1 + 1) a b i k at' xa y HAL.out HBL.out (by omega) (by omega) hat HXA.out hy hW.out
            obtain ⟨c0, c1⟩ := hcells _ hW.out
            have HCL := Lib.hid hcells
            have hfr0 := Blk.frozen hW.out (at' * 2)
            have hfr1 := Blk.frozen hW.out (at' * 2 + 1)
            have HSET := Lib.hid hset
            have HHW := hW
            have i0 : (0 : Int) ≤ (at' : Int) := by omega
            have i1 : (at' : Int) < 5 := by omega
            have HGO := hg
            clear hset hcells hW hat hy hg
            go_wp2_with fail
            (with_reducible refine (hcall _).mono ?_)
            rintro e w2 ⟨rfl, hg2⟩
            have HG2 := Lib.hid hg2
            have bW2 : WBk w2 (B + 1 + 1 + 1) (tmOI a b i k) := Blk.kept HHW.out hg2 nofun
            clear c0 c1 hfr0 hfr1
            obtain ⟨c0, c1⟩ := HCL.out w2 bW2
            have hfr0 := Blk.frozen bW2 (at' * 2)
            have hfr1 := Blk.frozen bW2 (at' * 2 + 1)
            have HW2 := Lib.hid bW2
            clear bW2 hg2 HCL HHW
            go_wp2_with fail
            go_roundw
            case rel => exact ⟨k + 1, by omega, by go_num, Lib.hid (HSET.out w2 HW2.out), Lib.hid (grow_setCell (grow_setCell (grow_trans HGO.out (grow_none HG2.out)) _ _) _ _)⟩
            case measure => simp [intOf]; omega
          · obtain ⟨at', hat, hat2⟩ : ∃ at' : Nat, (i + k) % 5 = at' ∧ (i : Int) + (k : Int) = (at' : Int) := ⟨(i + k) % 5, rfl, by omega⟩
            obtain ⟨y, hy, hy2⟩ : ∃ y : Nat, y = (if 5 ≤ i + k then 19 * b.getD k 0 else b.getD k 0) ∧ yb = y := ⟨_, rfl, by rw [if_neg h5, HYB.out]⟩
            have q : ¬ (5 : Int) ≤ (i : Int) + (k : Int) := by omega
            rw [hy2] at iy
            obtain ⟨n, hcells, hcall, hset⟩ := wide_step wr (B + 1 + 1 + 1) a b i k at' xa y HAL.out HBL.out (by omega) (by omega) hat HXA.out hy hW.out
            obtain ⟨c0, c1⟩ := hcells _ hW.out
            have HCL := Lib.hid hcells
            have hfr0 := Blk.frozen hW.out (at' * 2)
            have hfr1 := Blk.frozen hW.out (at' * 2 + 1)
            have HSET := Lib.hid hset
            have HHW := hW
            have i0 : (0 : Int) ≤ (at' : Int) := by omega
            have i1 : (at' : Int) < 5 := by omega
            have HGO := hg
            clear hset hcells hW hat hy hg
            go_wp2_with fail
            (with_reducible refine (hcall _).mono ?_)
            rintro e w2 ⟨rfl, hg2⟩
            have HG2 := Lib.hid hg2
            have bW2 : WBk w2 (B + 1 + 1 + 1) (tmOI a b i k) := Blk.kept HHW.out hg2 nofun
            clear c0 c1 hfr0 hfr1
            obtain ⟨c0, c1⟩ := HCL.out w2 bW2
            have hfr0 := Blk.frozen bW2 (at' * 2)
            have hfr1 := Blk.frozen bW2 (at' * 2 + 1)
            have HW2 := Lib.hid bW2
            clear bW2 hg2 HCL HHW
            go_wp2_with fail
            go_roundw
            case rel => exact ⟨k + 1, by omega, by go_num, Lib.hid (HSET.out w2 HW2.out), Lib.hid (grow_setCell (grow_setCell (grow_trans HGO.out (grow_none HG2.out)) _ _) _ _)⟩
            case measure => simp [intOf]; omega
        · obtain rfl : k = 5 := by omega
          go_wp2_with fail
          go_roundw
          case rel => exact ⟨i + 1, by omega, by go_num, Lib.hid hW.out, hg⟩
          case measure => simp [intOf]; omega
    · obtain rfl : i = 5 := by omega
      obtain ⟨W, hWe⟩ : ∃ W, W = tmOI a b 5 0 := ⟨_, rfl⟩
      have hWl : W.length = 5 := by rw [hWe]; exact tmOI_length a b 5 0
      have hWb : ∀ x ∈ W, x ≤ 3000000000000000000000000000000000 := by rw [hWe]; exact tmOI_le HAL.out HBL.out 5 0 (by omega) (by omega)
      have hbW : WBk wr (B + 1 + 1 + 1) W := by rw [hWe]; exact hW.out
      have HWE := Lib.hid hWe
      clear hW hWe
      obtain ⟨n0, n1, n2, n3, n4, eW⟩ := five hWl
      obtain ⟨O, hO⟩ : ∃ O, O = wr.heap.size := ⟨_, rfl⟩
      obtain ⟨y, hy⟩ : ∃ y, y = wr.alloc (.cells #[.int .u64 0, .int .u64 0, .int .u64 0, .int .u64 0, .int .u64 0] 144) := ⟨_, rfl⟩
      have bR : NB wr (B + 1 + 1) [0, 0, 0, 0, 0] := Blk.kept HR.out hg.out (by simp)
      have hlt := Blk.lt bR
      have bO : NB y O (carZ W 0) := by rw [hy, hO]; exact obj_new _ _
      have bR2 : NB y (B + 1 + 1) [0, 0, 0, 0, 0] := by rw [hy]; exact obj_alloc bR
      have hgy : w.grownBy y none := by rw [hy]; exact grow_alloc (grow_trans_new HG.out hg.out (by have := HB.out; omega)) _
      have hbW2 : WBk y (B + 1 + 1 + 1) W := by rw [hy]; exact obj_alloc hbW
      rw [eW] at hbW2
      obtain ⟨c0, c1⟩ := hbW2.cell 0 (by simp)
      obtain ⟨c2, c3⟩ := hbW2.cell 1 (by simp)
      obtain ⟨c4, c5⟩ := hbW2.cell 2 (by simp)
      obtain ⟨c6, c7⟩ := hbW2.cell 3 (by simp)
      obtain ⟨c8, c9⟩ := hbW2.cell 4 (by simp)
      have HWL := Lib.hid hWl
      have HWB := Lib.hid hWb
      have HEW := Lib.hid eW
      have HO := Lib.hid hO
      have HY := Lib.hid hy
      have HBO := Lib.hid bO
      have HR2 := Lib.hid bR2
      have HGY := Lib.hid hgy
      have HLT := Lib.hid hlt
      simp only [List.getElem_cons_zero, List.getElem_cons_succ, Nat.mul_zero, Nat.zero_add, Nat.mul_one, Nat.reduceMul, Nat.reduceAdd] at c0 c1 c2 c3 c4 c5 c6 c7 c8 c9
      clear hWl hWb hbW hbW2 eW hO hy bO bR bR2 hgy hlt hg HR HG HX HXL HA HBB
      go_upto_region 16 with (fail)
      rw [← HO.out, ← HY.out]
      go_wp2_with fail
      clear c0 c1 c2 c3 c4 c5 c6 c7 c8 c9
      go_loopw [12, 13, 14, 15, 16, 17, 48] (fun v12 v13 v14 v15 v16 v17 vi wr => ∃ i c : Nat, i ≤ 5 ∧ vi = .int .i64 i ∧ v12 = .int .u64 (c : Int) ∧ c ≤ 1400000000000000000 ∧ Hid (c = carC W i) ∧ Hid (NB wr O (carZ W i)) ∧ Hid (y.grownBy wr (some O))) (fun _ _ _ _ _ _ vi _ => 5 - (intOf vi).toNat)
      case atStart => exact ⟨0, 0, by omega, rfl, rfl, by omega, Lib.hid rfl, HBO, Lib.hid (grow_refl _ _)⟩
      case round =>
        clear HBO
        obtain ⟨i, c, hi, rfl, rfl, hcb, hc, hZ, hg⟩ := hrel
        by_cases hli : i < 5
        · obtain ⟨hw, l, s, d, z, c', lh, ll, ls, ld, lc, ix, ad, es, ec, ecc, ez⟩ := carry_step W i c n0 n1 n2 n3 n4 HWL.out HWB.out HEW.out hli hc.out
          have m1 : bits .and .u64 (s : Int) 2251799813685247 = (z : Int) := by rw [mask51 s ls, es]
          have w1 : IntKind.u64.wrap ((hw : Int) + (d : Int)) = (hw : Int) + (d : Int) := IntWalk.u64_in _ (by omega)
          have HECC := Lib.hid ecc
          have HEZ := Lib.hid ez
          have HES := Lib.hid es
          have HEC := Lib.hid ec
          have HC := hc
          have HZ := hZ
          have HGR := hg
          have bZ : NB (wr.alloc (.cells #[.int .u64 (hw : Int), .int .u64 (l : Int)] 213)) O (carZ W i) := obj_alloc HZ.out
          obtain ⟨zo, cO⟩ : ∃ zo : Nat, (wr.alloc (.cells #[.int .u64 (hw : Int), .int .u64 (l : Int)] 213)).cell? ⟨O, i, none⟩ = some (.int .u64 (zo : Int)) := ⟨_, bZ.cell i (by rw [carZ_length W i HWL.out (by omega)]; exact hli)⟩
          have fO := bZ.frozen i
          have hst := bZ.set i z
          rw [ez] at hst
          have HST := Lib.hid hst
          have HGS := Lib.hid (grow_setCell (grow_alloc HGR.out (.cells #[.int .u64 (hw : Int), .int .u64 (l : Int)] 213)) i (.int .u64 (z : Int)))
          have i0 : (0 : Int) ≤ (i : Int) := by omega
          have i1 : (i : Int) < 5 := by omega
          have o1 : bits .or .u64 (((hw : Int) + (d : Int)) * 8192) ((s : Int) / 2251799813685248) = (c' : Int) := by
            have := u64_or_nat ((hw + d) * 8192) (s / 2251799813685248) (by omega) (by omega)
            rw [ec] at this
            simpa using this
          clear ecc ez es ec hc hZ hg bZ hst
          go_wp2_with fail
          all_goals go_roundw
          all_goals first
            | exact ⟨i + 1, c', by omega, by go_num, rfl, lc, HECC, HST, HGS⟩
            | (simp [intOf]; omega)
        · obtain rfl : i = 5 := by omega
          obtain ⟨q1, q2⟩ := carZ_five W HWL.out
          obtain ⟨z0, z1, z2, z3, z4, ez⟩ := five (carZ_length W 5 HWL.out (by omega))
          have hc2 : c = (carF W 0).2 := hc.out.trans q2
          have hr1 : (carF W 0).1 = [z0, z1, z2, z3, z4] := q1.symm.trans ez
          have hbz := hZ.out
          rw [ez] at hbz
          have hsm := carF_small W 0
          rw [hr1] at hsm
          have k0 := hsm z0 (by simp)
          have k1 := hsm z1 (by simp)
          obtain ⟨cm, hcm⟩ : ∃ cm, cm = c % 2251799813685248 := ⟨_, rfl⟩
          obtain ⟨ch, hch⟩ : ∃ ch, ch = c / 2251799813685248 := ⟨_, rfl⟩
          have eC : tmC W = [z0 + 19 * cm, z1 + 19 * ch, z2, z3, z4] := by
            unfold tmC
            simp only [hr1, ← hc2, ← hcm, ← hch]
            rfl
          have m1 : bits .and .u64 (c : Int) 2251799813685247 = (cm : Int) := by rw [mask51 c (by omega), hcm]
          have m2 : (c : Int) / 2251799813685248 = (ch : Int) := by rw [hch]; rfl
          have lcm : cm < 2251799813685248 := by omega
          have lch : ch ≤ 622 := by omega
          have hcb' := tmC_le W HWL.out HWB.out
          have hcl := tmC_length W HWL.out
          have hok := carL_ok (tmC W) hcl hcb'
          have hcv := carL_val (tmC W) hcl
          have hv2 := tmC_val W HWL.out
          have HC : ∀ V : World, Calls Tryz.prog 140 #[N5 (tmC W)] V (Grown (N5 (carL (tmC W))) V) := fun V => code_ncarried V _ hcl hcb'
          have hval : lval (carL (tmC W)) % PP = (lval a * lval b) % PP := by
            rw [hcv, hv2, HWE.out]
            have g1 := HEA.out
            have g2 := HEB.out
            rw [g1, g2]
            exact tmO_val a0 a1 a2 a3 a4 b0 b1 b2 b3 b4
          obtain ⟨r0, r1, r2, r3, r4, h6⟩ := five hok.length
          rw [h6, eC, N5_lit, N5_lit] at HC
          have hst := (hbz.set 0 (z0 + 19 * cm)).set 1 (z1 + 19 * ch)
          have hgs := grow_setCell (grow_setCell hg.out 0 (.int .u64 ((z0 + 19 * cm : Nat) : Int))) 1 (.int .u64 ((z1 + 19 * ch : Nat) : Int))
          have hst' : NB ((wr.setCell ⟨O, 0, none⟩ (.int .u64 ((z0 : Int) + 19 * (cm : Int)))).setCell ⟨O, 1, none⟩ (.int .u64 ((z1 : Int) + 19 * (ch : Int)))) O [z0 + 19 * cm, z1 + 19 * ch, z2, z3, z4] := by simpa using hst
          have hgs' : y.grownBy ((wr.setCell ⟨O, 0, none⟩ (.int .u64 ((z0 : Int) + 19 * (cm : Int)))).setCell ⟨O, 1, none⟩ (.int .u64 ((z1 : Int) + 19 * (ch : Int)))) (some O) := by simpa using hgs
          obtain ⟨y2, hy2⟩ : ∃ y2, y2 = (wr.setCell ⟨O, 0, none⟩ (.int .u64 ((z0 : Int) + 19 * (cm : Int)))).setCell ⟨O, 1, none⟩ (.int .u64 ((z1 : Int) + 19 * (ch : Int))) := ⟨_, rfl⟩
          rw [← hy2] at hst' hgs'
          have bR5 : NB y2 (B + 1 + 1) [0, 0, 0, 0, 0] := Blk.kept HR2.out hgs' (by have := HO.out; have := HLT.out; simp; omega)
          obtain ⟨⟨e0, e1, e2, e3, e4⟩, _⟩ := hst'.five
          obtain ⟨⟨c0, c1, c2, c3, c4⟩, f0, f1, f2, f3, f4⟩ := hbz.five
          have HRES := Lib.hid (And.intro (h6 ▸ hok) (h6 ▸ hval))
          have HY2 := Lib.hid hy2
          have HR5 := Lib.hid bR5
          have HGF := Lib.hid (grow_trans_new HGY.out hgs' (by have := HO.out; have := HLT.out; have := HB.out; omega))
          obtain ⟨u0, hu0⟩ : ∃ u0, u0 = z0 + 19 * cm := ⟨_, rfl⟩
          obtain ⟨u1, hu1⟩ : ∃ u1, u1 = z1 + 19 * ch := ⟨_, rfl⟩
          rw [← hu0] at e0 HC
          rw [← hu1] at e1 HC
          have HC' := HC
          clear hu0 hu1 HC hst hgs hst' hgs' hy2 bR5 hbz hsm hok hcv hv2 hval h6 eC hc2 hr1 q1 q2 ez hcm hch hcb' hcl hc hZ hg
          go_upto_region 26 with (fail)
          rw [← HY2.out]
          clear c0 c1 c2 c3 c4 f0 f1 f2 f3 f4
          go_wp2_with fail
          (with_reducible refine (HC' _).mono ?_)
          rintro e w2 ⟨rfl, hg2⟩
          have bR3 : NB w2 (B + 1 + 1) [0, 0, 0, 0, 0] := Blk.kept HR5.out hg2 nofun
          obtain ⟨⟨z0, z1, z2, z3, z4⟩, f0, f1, f2, f3, f4⟩ := bR3.five
          have hfin := Lib.hid (grow5 (B := B + 1 + 1) (grow_trans HGF.out hg2) (by have := HB.out; omega) (.int .u64 (r0 : Int)) (.int .u64 (r1 : Int)) (.int .u64 (r2 : Int)) (.int .u64 (r3 : Int)) (.int .u64 (r4 : Int)))
          clear e0 e1 e2 e3 e4 bR3 hg2 HC'
          go_wp2_with fail
          refine bodyPost_ret (v := .agg #[.int .u64 (r0 : Int), .int .u64 (r1 : Int), .int .u64 (r2 : Int), .int .u64 (r3 : Int), .int .u64 (r4 : Int)]) (by simp [results, Tryz.results87, go_sem, z0, z1, z2, z3, z4]) rfl ?_
          exact ⟨[r0, r1, r2, r3, r4], rfl, HRES.out.1, HRES.out.2, hfin.out⟩

end Go.Proofs.YtmomfbkpniblgaaGreatDoor
