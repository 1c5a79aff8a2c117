/- SHA-256: 64 bytes taken. -/
import Derived.Test.YtmomfbkpniblgaaGreatDoorDg07
import Derived.Deep.QuietTactic
import Derived.BigQuiet
namespace Go.Proofs.YtmomfbkpniblgaaGreatDoor
open Go.RowKit
set_option linter.unusedVariables false

def zeros64 : List Nat := List.replicate 64 0
def wsL (b : List UInt8) (t : Nat) : List Nat := sched b t ++ List.replicate (64 - t) 0
theorem wsL_length (b : List UInt8) (t : Nat) (h : t ≤ 64) : (wsL b t).length = 64 := by
  unfold wsL
  rw [List.length_append, sched_length, List.length_replicate]
  omega
theorem wsL_set (b : List UInt8) (t : Nat) (h : t < 64) : (wsL b t).set t (wNext b (sched b t) t) = wsL b (t + 1) := by
  unfold wsL
  rw [List.set_append_right _ _ (by rw [sched_length]; omega), sched_length, Nat.sub_self, show 64 - t = (64 - (t + 1)) + 1 from by omega, List.replicate_succ, List.set_cons_zero, sched, List.append_assoc]
  rfl
theorem wsL_at (b : List UInt8) (t j : Nat) (h : j < t) (ht : t ≤ 64) : (wsL b t)[j]'(by rw [wsL_length b t ht]; omega) = (sched b t).getD j 0 := by
  unfold wsL
  rw [List.getElem_append_left (by rw [sched_length]; exact h), List.getD_eq_getElem?_getD, List.getElem?_eq_getElem (by rw [sched_length]; exact h)]
  rfl
theorem wsL_all (b : List UInt8) : wsL b 64 = sched b 64 := by unfold wsL; simp
theorem sadd_lt (a b : Nat) : sadd a b < 4294967296 := Nat.mod_lt _ (by omega)
theorem bigN_4 (l : List UInt8) : bigN (l.take 4) < 4294967296 := by
  refine Nat.lt_of_lt_of_le (bigN_lt _) ?_
  exact (Nat.pow_le_pow_right (by omega) (by rw [List.length_take]; omega) : 256 ^ (l.take 4).length ≤ 256 ^ 4)
theorem wNext_lt (b : List UInt8) (l : List Nat) (t : Nat) : wNext b l t < 4294967296 := by
  unfold wNext
  split
  · exact bigN_4 _
  · exact sadd_lt _ _
theorem sched_lt (b : List UInt8) : ∀ t, Small32 (sched b t)
  | 0 => by intro x hx; cases hx
  | t + 1 => by
    intro x hx
    rw [sched, List.mem_append] at hx
    rcases hx with h | h
    · exact sched_lt b t x h
    · rw [List.mem_singleton.1 h]; exact wNext_lt _ _ _
theorem getD_lt {l : List Nat} (h : Small32 l) (i : Nat) : l.getD i 0 < 4294967296 := by
  rw [List.getD_eq_getElem?_getD]
  by_cases q : i < l.length
  · rw [List.getElem?_eq_getElem q]; exact h _ (List.getElem_mem q)
  · rw [List.getElem?_eq_none (by omega)]; decide

theorem eight {b : List Nat} (h : b.length = 8) : ∃ a0 a1 a2 a3 a4 a5 a6 a7, b = [a0, a1, a2, a3, a4, a5, a6, a7] := by
  match b, h with
  | [a0, a1, a2, a3, a4, a5, a6, a7], _ => exact ⟨a0, a1, a2, a3, a4, a5, a6, a7, rfl⟩
theorem HB.eight {w : World} {B : Nat} {t : TypeId} {a0 a1 a2 a3 a4 a5 a6 a7 : Nat} (h : HB w B t [a0, a1, a2, a3, a4, a5, a6, a7]) :
    w.cell? ⟨B, 0, none⟩ = some (.int .u32 (a0 : Int)) ∧ w.cell? ⟨B, 1, none⟩ = some (.int .u32 (a1 : Int)) ∧ w.cell? ⟨B, 2, none⟩ = some (.int .u32 (a2 : Int)) ∧ w.cell? ⟨B, 3, none⟩ = some (.int .u32 (a3 : Int)) ∧
    w.cell? ⟨B, 4, none⟩ = some (.int .u32 (a4 : Int)) ∧ w.cell? ⟨B, 5, none⟩ = some (.int .u32 (a5 : Int)) ∧ w.cell? ⟨B, 6, none⟩ = some (.int .u32 (a6 : Int)) ∧ w.cell? ⟨B, 7, none⟩ = some (.int .u32 (a7 : Int)) :=
  ⟨h.cell 0 (by simp), h.cell 1 (by simp), h.cell 2 (by simp), h.cell 3 (by simp), h.cell 4 (by simp), h.cell 5 (by simp), h.cell 6 (by simp), h.cell 7 (by simp)⟩
theorem shaK_small : Small32 shaK := by unfold Small32; decide +kernel
theorem shaR_small {v : List Nat} (h : Small32 v) (k w : Nat) : Small32 (shaR v k w) := by
  intro x hx
  have g := getD_lt h
  simp only [shaR, List.mem_cons, List.not_mem_nil, or_false] at hx
  rcases hx with rfl | rfl | rfl | rfl | rfl | rfl | rfl | rfl
  · exact sadd_lt _ _
  · exact g 0
  · exact g 1
  · exact g 2
  · exact sadd_lt _ _
  · exact g 4
  · exact g 5
  · exact g 6
theorem shaRs_small (ws s : List Nat) (h : Small32 s) : ∀ t, Small32 (shaRs ws s t)
  | 0 => h
  | t + 1 => shaR_small (shaRs_small ws s h t) _ _
theorem kAt (t : Nat) (h : t < 64) : (shaK.map c32).toArray[t]? = some (c32 (shaK.getD t 0)) := by
  have hl : shaK.length = 64 := by decide +kernel
  rw [List.getElem?_toArray, List.getElem?_map, List.getD_eq_getElem?_getD, List.getElem?_eq_getElem (by omega)]
  rfl

theorem nameAnd (a b : Nat) (ha : a < 4294967296) (hb : b < 4294967296) : ∃ c : Nat, ((a &&& b) = c ∧ bits .and .u32 (a : Int) (b : Int) = (c : Int)) ∧ c < 4294967296 :=
  ⟨a &&& b, ⟨rfl, u32_and_nat a b ha hb⟩, Nat.lt_of_le_of_lt Nat.and_le_left ha⟩
theorem nameOr (a b : Nat) (ha : a < 4294967296) (hb : b < 4294967296) : ∃ c : Nat, ((a ||| b) = c ∧ bits .or .u32 (a : Int) (b : Int) = (c : Int)) ∧ c < 4294967296 :=
  ⟨a ||| b, ⟨rfl, u32_or_nat a b ha hb⟩, Nat.or_lt_two_pow (n := 32) ha hb⟩
theorem nameXor (a b : Nat) (ha : a < 4294967296) (hb : b < 4294967296) : ∃ c : Nat, ((a ^^^ b) = c ∧ bits .xor .u32 (a : Int) (b : Int) = (c : Int)) ∧ c < 4294967296 :=
  ⟨a ^^^ b, ⟨rfl, u32_xor_nat a b ha hb⟩, xor32_lt ha hb⟩
theorem nameNot (b : Nat) (hb : b < 4294967296) : ∃ c : Nat, ((4294967295 ^^^ b) = c ∧ bits .xor .u32 IntKind.u32.max (b : Int) = (c : Int)) ∧ c < 4294967296 :=
  ⟨4294967295 ^^^ b, ⟨rfl, u32_xor_nat 4294967295 b (by omega) hb⟩, xor32_lt (by omega) hb⟩
theorem nameAdd (a b : Nat) : ∃ c : Nat, (sadd a b = c ∧ ((a : Int) + (b : Int)) % 4294967296 = (c : Int) ∧ IntKind.u32.wrap ((a : Int) + (b : Int)) = (c : Int)) ∧ c < 4294967296 :=
  ⟨sadd a b, ⟨rfl, by unfold sadd; omega, by rw [IntKind.wrap_u32]; unfold sadd; omega⟩, sadd_lt a b⟩
theorem quiet_add_left {P : Program} {f : FuncId} {args : Array Value} {w : World} {a n : Nat} {v : Value}
    (h : Calls P f args (w.drewN (a + n)) fun e w' => e = .returned v ∧ w.drewN (a + n) = w') :
    Calls P f args (w.drewN (a + n)) fun e w'' => e = .returned v ∧ ∃ m, w'' = w.drewN (a + m) :=
  h.mono fun _ _ ⟨he, hm⟩ => ⟨he, n, hm.symm⟩

def sumK (s r : List Nat) (i : Nat) : List Nat := (sumW s r).take i ++ s.drop i
theorem sumW_length (s r : List Nat) (hs : s.length = 8) (hr : r.length = 8) : (sumW s r).length = 8 := by unfold sumW; rw [List.length_zipWith]; omega
theorem sumK_length (s r : List Nat) (hs : s.length = 8) (hr : r.length = 8) (i : Nat) (h : i ≤ 8) : (sumK s r i).length = 8 := by
  unfold sumK
  rw [List.length_append, List.length_take, List.length_drop, sumW_length s r hs hr]
  omega
theorem sumK_at (s r : List Nat) (hs : s.length = 8) (hr : r.length = 8) (i : Nat) (h : i < 8) : (sumK s r i)[i]'(by rw [sumK_length s r hs hr i (by omega)]; exact h) = s.getD i 0 := by
  unfold sumK
  rw [List.getElem_append_right (by rw [List.length_take, sumW_length s r hs hr]; omega), List.getElem_drop, List.getD_eq_getElem?_getD, List.getElem?_eq_getElem (by omega)]
  simp [sumW_length s r hs hr]
  congr 1
  omega
theorem sumK_set (s r : List Nat) (hs : s.length = 8) (hr : r.length = 8) (i : Nat) (h : i < 8) : (sumK s r i).set i (sadd (s.getD i 0) (r.getD i 0)) = sumK s r (i + 1) := by
  unfold sumK
  have l := sumW_length s r hs hr
  rw [List.set_append_right _ _ (by rw [List.length_take]; omega), List.length_take, l, show i - min i 8 = 0 from by omega, List.drop_eq_getElem_cons (show i < s.length by omega), List.set_cons_zero]
  rw [List.take_succ_eq_append_getElem (show i < (sumW s r).length by omega), List.append_assoc]
  congr 2
  unfold sumW
  rw [List.getElem_zipWith, List.getD_eq_getElem?_getD, List.getD_eq_getElem?_getD, List.getElem?_eq_getElem (show i < s.length by omega), List.getElem?_eq_getElem (show i < r.length by omega)]
  rfl
theorem sumK_all (s r : List Nat) (hs : s.length = 8) (hr : r.length = 8) : sumK s r 8 = sumW s r := by
  unfold sumK
  rw [List.drop_of_length_le (by omega), List.append_nil, List.take_of_length_le (by rw [sumW_length s r hs hr]; omega)]

set_option maxRecDepth 20000 in
set_option maxHeartbeats 4000000 in
theorem code_taken (w : World) (s : List Nat) (b : List UInt8) (hs : s.length = 8) (hs2 : Small32 s) (hb : b.length = 64) :
    Calls Tryz.prog 265 #[A32 s, S b] w (Grown (A32 (takenL s b)) w) := by
  obtain ⟨B, hB⟩ : ∃ B, B = w.heap.size := ⟨_, rfl⟩
  obtain ⟨x, hx⟩ : ∃ x, x = ((w.alloc (.cells (s.map c32).toArray 350)).alloc (.cells #[.int .u32 0, .int .u32 0, .int .u32 0, .int .u32 0, .int .u32 0, .int .u32 0, .int .u32 0, .int .u32 0] 350)).alloc (.cells #[.int .u32 0, .int .u32 0, .int .u32 0, .int .u32 0, .int .u32 0, .int .u32 0, .int .u32 0, .int .u32 0, .int .u32 0, .int .u32 0, .int .u32 0, .int .u32 0, .int .u32 0, .int .u32 0, .int .u32 0, .int .u32 0, .int .u32 0, .int .u32 0, .int .u32 0, .int .u32 0, .int .u32 0, .int .u32 0, .int .u32 0, .int .u32 0, .int .u32 0, .int .u32 0, .int .u32 0, .int .u32 0, .int .u32 0, .int .u32 0, .int .u32 0, .int .u32 0, .int .u32 0, .int .u32 0, .int .u32 0, .int .u32 0, .int .u32 0, .int .u32 0, .int .u32 0, .int .u32 0, .int .u32 0, .int .u32 0, .int .u32 0, .int .u32 0, .int .u32 0, .int .u32 0, .int .u32 0, .int .u32 0, .int .u32 0, .int .u32 0, .int .u32 0, .int .u32 0, .int .u32 0, .int .u32 0, .int .u32 0, .int .u32 0, .int .u32 0, .int .u32 0, .int .u32 0, .int .u32 0, .int .u32 0, .int .u32 0, .int .u32 0, .int .u32 0] 372) := ⟨_, rfl⟩
  have s1 : (w.alloc (.cells (s.map c32).toArray 350)).heap.size = B + 1 := by rw [hB]; simp
  have s2 : ((w.alloc (.cells (s.map c32).toArray 350)).alloc (.cells #[.int .u32 0, .int .u32 0, .int .u32 0, .int .u32 0, .int .u32 0, .int .u32 0, .int .u32 0, .int .u32 0] 350)).heap.size = B + 1 + 1 := by rw [hB]; simp
  have bS : HB x B 350 s := by rw [hx, hB]; exact obj_alloc (obj_alloc (obj_new _ _))
  have bR : HB x (B + 1) 350 [0, 0, 0, 0, 0, 0, 0, 0] := by rw [hx, ← s1]; exact obj_alloc (obj_new _ _)
  have bW : HB x (B + 1 + 1) 372 (wsL b 0) := by rw [hx, ← s2]; exact obj_new _ _
  have hgx : w.grownBy x none := by rw [hx]; exact grow_alloc (grow_alloc (grow_alloc (grow_refl w none) _) _) _
  have HB0 := Lib.hid hB
  have HX := Lib.hid hx
  have HBS := Lib.hid bS
  have HBR := Lib.hid bR
  have HBW := Lib.hid bW
  have HG := Lib.hid hgx
  have HS := Lib.hid hs
  have HS2 := Lib.hid hs2
  have HL := Lib.hid hb
  have r2 := rule_ext
  clear hB hx bS bR bW hgx hs hs2 hb s1 s2
  unfold A32 S
  go_enter Tryz.func265, Tryz.ntmps265
  go_upto_region 2 with (fail)
  rw [← HB0.out, ← HX.out]
  go_wp2_with fail
  go_loopw [15] (fun v15 wr => ∃ i : Nat, i ≤ 64 ∧ v15 = .int .i64 i ∧ Hid (HB wr (B + 1 + 1) 372 (wsL b i)) ∧ Hid (x.grownBy wr (some (B + 1 + 1)))) (fun v15 _ => 64 - (intOf v15).toNat)
  case atStart => exact ⟨0, by omega, rfl, HBW, Lib.hid (grow_refl _ _)⟩
  case round =>
    obtain ⟨i, hi, rfl, hW, hg⟩ := hrel
    by_cases hlt : i < 64
    · have hst := hW.out.set i (wNext b (sched b i) i)
      rw [wsL_set b i hlt] at hst
      have hgs := grow_setCell hg.out i (.int .u32 ((wNext b (sched b i) i : Nat) : Int))
      have cW := Blk.cell hW.out
      have fi : wr.frozen? ⟨B + 1 + 1, i, none⟩ = false := Blk.frozen hW.out i
      have ci : wr.cell? ⟨B + 1 + 1, i, none⟩ = some (.int .u32 ((wsL b i)[i]'(by rw [wsL_length b i hi]; exact hlt) : Nat)) := hW.out.cell i _
      by_cases h16 : i < 16
      · have hn : wNext b (sched b i) i = bigN ((b.drop (4 * i)).take 4) := by unfold wNext; rw [if_pos h16]
        have hN := bigN_4 (b.drop (4 * i))
        have AB : ∀ W : World, Calls Tryz.prog 247 #[.string ⟨((b.drop (4 * i)).take 4).toArray⟩] W fun e w' => e = .returned (.int .u64 (bigN ((b.drop (4 * i)).take 4))) ∧ W = w' := fun W => wire_big W _ (by rw [List.length_take]; omega)
        rw [hn] at hst hgs
        have hcv : ((bigN ((b.drop (4 * i)).take 4) : Nat) : Int) % 4294967296 = ((bigN ((b.drop (4 * i)).take 4) : Nat) : Int) := by omega
        have lb : b.length = 64 := HL.out
        have k1 : (4 * (i : Int)).toNat = 4 * i := by omega
        have k2 : (4 * (i : Int) + 4).toNat = 4 * i + 4 := by omega
        have k3 : 4 * i + 4 ≤ b.length := by omega
        have k4 : 4 * (i : Int) + 4 ≤ (b.length : Int) := by omega
        have HST := Lib.hid hst
        have HGS := Lib.hid hgs
        clear hn hst hgs cW hW hg lb
        generalize bigN ((b.drop (4 * i)).take 4) = N at *
        go_wp2_with fail
        (with_reducible refine (AB _).mono ?_)
        rintro e w1 ⟨rfl, rfl⟩
        go_wp2_with fail
        go_roundw
        case rel => exact ⟨i + 1, by omega, by go_num, HST, HGS⟩
        case measure => simp [intOf]; omega
      · obtain ⟨a1, e1, b1⟩ : ∃ j : Nat, (i : Int) - 16 = (j : Int) ∧ i - 16 = j := ⟨i - 16, by omega, rfl⟩
        obtain ⟨a2, e2, b2⟩ : ∃ j : Nat, (i : Int) - 7 = (j : Int) ∧ i - 7 = j := ⟨i - 7, by omega, rfl⟩
        obtain ⟨a3, e3, b3⟩ : ∃ j : Nat, (i : Int) - 15 = (j : Int) ∧ i - 15 = j := ⟨i - 15, by omega, rfl⟩
        obtain ⟨a4, e4, b4⟩ : ∃ j : Nat, (i : Int) - 2 = (j : Int) ∧ i - 2 = j := ⟨i - 2, by omega, rfl⟩
        obtain ⟨x1, hx1⟩ : ∃ z, z = (sched b i).getD a1 0 := ⟨_, rfl⟩
        obtain ⟨x2, hx2⟩ : ∃ z, z = (sched b i).getD a2 0 := ⟨_, rfl⟩
        obtain ⟨x3, hx3⟩ : ∃ z, z = (sched b i).getD a3 0 := ⟨_, rfl⟩
        obtain ⟨x4, hx4⟩ : ∃ z, z = (sched b i).getD a4 0 := ⟨_, rfl⟩
        have q1 : wr.cell? ⟨B + 1 + 1, a1, none⟩ = some (.int .u32 (x1 : Int)) := by have := hW.out.cell a1 (by rw [wsL_length b i hi]; omega); rw [wsL_at b i a1 (by omega) hi, ← hx1] at this; exact this
        have q2 : wr.cell? ⟨B + 1 + 1, a2, none⟩ = some (.int .u32 (x2 : Int)) := by have := hW.out.cell a2 (by rw [wsL_length b i hi]; omega); rw [wsL_at b i a2 (by omega) hi, ← hx2] at this; exact this
        have q3 : wr.cell? ⟨B + 1 + 1, a3, none⟩ = some (.int .u32 (x3 : Int)) := by have := hW.out.cell a3 (by rw [wsL_length b i hi]; omega); rw [wsL_at b i a3 (by omega) hi, ← hx3] at this; exact this
        have q4 : wr.cell? ⟨B + 1 + 1, a4, none⟩ = some (.int .u32 (x4 : Int)) := by have := hW.out.cell a4 (by rw [wsL_length b i hi]; omega); rw [wsL_at b i a4 (by omega) hi, ← hx4] at this; exact this
        have o1 : x1 < 4294967296 := by rw [hx1]; exact getD_lt (sched_lt b i) _
        have o2 : x2 < 4294967296 := by rw [hx2]; exact getD_lt (sched_lt b i) _
        have o3 : x3 < 4294967296 := by rw [hx3]; exact getD_lt (sched_lt b i) _
        have o4 : x4 < 4294967296 := by rw [hx4]; exact getD_lt (sched_lt b i) _
        have hn : wNext b (sched b i) i = sadd (sadd (sadd x1 x2) (mixS x3 7 18 3)) (mixS x4 17 19 10) := by unfold wNext; rw [if_neg h16, b1, b2, b3, b4, hx1, hx2, hx3, hx4]
        have M3 : ∀ W : World, Calls Tryz.prog 284 #[.int .u32 (x3 : Int), .int .i64 7, .int .i64 18, .int .i64 3] W (Said32 (mixS x3 7 18 3) W) := fun W => mix_s0 W x3 o3
        have M4 : ∀ W : World, Calls Tryz.prog 284 #[.int .u32 (x4 : Int), .int .i64 17, .int .i64 19, .int .i64 10] W (Said32 (mixS x4 17 19 10) W) := fun W => mix_s1 W x4 o4
        have p3 := mixS_lt o3 7 18 3
        have p4 := mixS_lt o4 17 19 10
        rw [hn] at hst hgs
        generalize mixS x3 7 18 3 = m3 at *
        generalize mixS x4 17 19 10 = m4 at *
        obtain ⟨y1, hy1⟩ : ∃ z, z = sadd x1 x2 := ⟨_, rfl⟩
        obtain ⟨y2, hy2⟩ : ∃ z, z = sadd y1 m3 := ⟨_, rfl⟩
        obtain ⟨y3, hy3⟩ : ∃ z, z = sadd y2 m4 := ⟨_, rfl⟩
        rw [← hy1, ← hy2, ← hy3] at hst hgs
        have t1 : ((x1 : Int) + (x2 : Int)) % 4294967296 = (y1 : Int) := by rw [hy1]; unfold sadd; omega
        have t2 : ((y1 : Int) + (m3 : Int)) % 4294967296 = (y2 : Int) := by rw [hy2]; unfold sadd; omega
        have t3 : ((y2 : Int) + (m4 : Int)) % 4294967296 = (y3 : Int) := by rw [hy3]; unfold sadd; omega
        have w1 : IntKind.i64.wrap (a1 : Int) = (a1 : Int) := IntWalk.i64_in _ (by omega)
        have w2 : IntKind.i64.wrap (a2 : Int) = (a2 : Int) := IntWalk.i64_in _ (by omega)
        have w3 : IntKind.i64.wrap (a3 : Int) = (a3 : Int) := IntWalk.i64_in _ (by omega)
        have w4 : IntKind.i64.wrap (a4 : Int) = (a4 : Int) := IntWalk.i64_in _ (by omega)
        have g1 : (a1 : Int) < 64 := by omega
        have g2 : (a2 : Int) < 64 := by omega
        have g3 : (a3 : Int) < 64 := by omega
        have g4 : (a4 : Int) < 64 := by omega
        have h16' : ¬ ((i : Int) < 16) := by omega
        have HST := Lib.hid hst
        have HGS := Lib.hid hgs
        clear hn hst hgs cW hW hg hx1 hx2 hx3 hx4 hy1 hy2 hy3 b1 b2 b3 b4
        unfold Said32 at M3 M4
        go_wp2_with fail
        go_still_tail 23, (by kernel_rfl)
        still_call ((M3 _).mono (fun e w' h => ⟨h.1, h.2.symm⟩))
        repeat still_step
        still_call ((M4 _).mono (fun e w' h => ⟨h.1, h.2.symm⟩))
        repeat still_step
        refine wpStill_nil ?_
        change wpList _ _ _ _ _ wr.drew
        go_wp2_with fail
        go_roundw
        case rel => exact ⟨i + 1, by omega, by go_num, HST, grow_drew HGS⟩
        case measure => simp [intOf]; omega
    · obtain rfl : i = 64 := by omega
      have bS2 : HB wr B 350 s := Blk.kept HBS.out hg.out (by simp; omega)
      have bR2 : HB wr (B + 1) 350 [0, 0, 0, 0, 0, 0, 0, 0] := Blk.kept HBR.out hg.out (by simp)
      have bW2 : HB wr (B + 1 + 1) 372 (sched b 64) := by have := hW.out; rw [wsL_all] at this; exact this
      obtain ⟨s0, s1, s2, s3, s4, s5, s6, s7, es⟩ := eight HS.out
      have bS3 := bS2
      rw [es] at bS3
      obtain ⟨c0, c1, c2, c3, c4, c5, c6, c7⟩ := bS3.eight
      obtain ⟨V, hV⟩ : ∃ V, V = wr.heap.size := ⟨_, rfl⟩
      obtain ⟨y, hy⟩ : ∃ y, y = wr.alloc (.cells #[.int .u32 (s0 : Int), .int .u32 (s1 : Int), .int .u32 (s2 : Int), .int .u32 (s3 : Int), .int .u32 (s4 : Int), .int .u32 (s5 : Int), .int .u32 (s6 : Int), .int .u32 (s7 : Int)] 350) := ⟨_, rfl⟩
      have bV : HB y V 350 s := by rw [hy, hV, es]; exact obj_new _ _
      have bS4 : HB y B 350 s := by rw [hy]; exact obj_alloc bS2
      have bR4 : HB y (B + 1) 350 [0, 0, 0, 0, 0, 0, 0, 0] := by rw [hy]; exact obj_alloc bR2
      have bW4 : HB y (B + 1 + 1) 372 (sched b 64) := by rw [hy]; exact obj_alloc bW2
      have hgy : w.grownBy y none := by rw [hy]; exact grow_alloc (grow_trans_new HG.out hg.out (by have := HB0.out; omega)) _
      have hBV : B + 1 + 1 < V := by rw [hV]; exact Blk.lt bW2
      have HV := Lib.hid hV
      have HY := Lib.hid hy
      have HBV := Lib.hid bV
      have HBS := Lib.hid bS4
      have HBR := Lib.hid bR4
      have HBW := Lib.hid bW4
      have HGY := Lib.hid hgy
      have HES := Lib.hid es
      clear bS2 bR2 bW2 bS3 hV hy bV bS4 bR4 bW4 hgy es hW hg r2
      go_upto_region 10 with (fail)
      rw [← HV.out, ← HY.out]
      clear c0 c1 c2 c3 c4 c5 c6 c7
      go_wp2_with fail
      (with_reducible refine (code_constants _).mono ?_)
      rintro e z ⟨rfl, hgz⟩
      have bV : HB z V 350 s := Blk.kept HBV.out hgz nofun
      have HBV := Lib.hid bV
      have HBS := Lib.hid (Blk.kept HBS.out hgz nofun)
      have HBR := Lib.hid (Blk.kept HBR.out hgz nofun)
      have HBW := Lib.hid (Blk.kept HBW.out hgz nofun)
      have HGZ := Lib.hid (grow_trans HGY.out hgz)
      clear bV hgz
      obtain ⟨K, hK⟩ : ∃ K, K = shaK := ⟨_, rfl⟩
      unfold A32
      rw [← hK]
      have HK := Lib.hid hK
      clear hK
      go_wp2_with fail
      go_loopw [57] (fun v57 wr => ∃ t : Nat, t ≤ 64 ∧ v57 = .int .i64 t ∧ Hid (HB wr V 350 (shaRs (sched b 64) s t)) ∧ Hid (z.grownBy wr (some V))) (fun v57 _ => 64 - (intOf v57).toNat)
      case atStart => exact ⟨0, by omega, rfl, HBV, Lib.hid (grow_refl _ _)⟩
      case round =>
        obtain ⟨t, ht, rfl, hL, hg⟩ := hrel
        by_cases hlt : t < 64
        · have lL := shaRs_length (sched b 64) s HS.out t
          have sL := shaRs_small (sched b 64) s HS2.out t
          have ix : ∀ W : World, (Instr.index 372 (.agg (K.map c32).toArray) (.int .i64 (t : Int))).run Tryz.prog W = .ok (.int .u32 ((shaK.getD t 0 : Nat) : Int)) W := fun W =>
            run_index_one W 372 33 64 _ t _ Tryz.underlying372 info_u32 (by kernel_rfl) hlt (by rw [HK.out]; exact kAt t hlt)
          have lk : shaK.getD t 0 < 4294967296 := getD_lt shaK_small t
          have hnext : shaRs (sched b 64) s (t + 1) = shaR (shaRs (sched b 64) s t) (shaK.getD t 0) ((sched b 64).getD t 0) := rfl
          have bw := Blk.kept HBW.out hg.out (by simp; omega)
          have cw : wr.cell? ⟨B + 1 + 1, t, none⟩ = some (.int .u32 (((sched b 64).getD t 0 : Nat) : Int)) := by
            have := HB.cell bw t (by rw [sched_length]; exact hlt)
            rw [this, List.getD_eq_getElem?_getD, List.getElem?_eq_getElem (by rw [sched_length]; exact hlt)]
            rfl
          have lw := getD_lt (sched_lt b 64) t
          generalize shaK.getD t 0 = kt at *
          generalize (sched b 64).getD t 0 = wt at *
          obtain ⟨L', hL'⟩ : ∃ L', L' = shaRs (sched b 64) s (t + 1) := ⟨_, rfl⟩
          rw [← hL'] at hnext
          have HLN := Lib.hid hL'
          clear hL'
          generalize shaRs (sched b 64) s t = L at *
          obtain ⟨v0, v1, v2, v3, v4, v5, v6, v7, eL⟩ := eight lL
          have bL := hL.out
          rw [eL] at bL
          obtain ⟨c0, c1, c2, c3, c4, c5, c6, c7⟩ := bL.eight
          have HNX := Lib.hid hnext
          have HBL := Lib.hid bL
          have HEL := Lib.hid eL
          rw [eL] at sL
          have HSL := Lib.hid sL
          clear hnext bw bL eL lL sL hL
          have t64 : (t : Int) < 64 := by omega
          have hv : ∀ x ∈ [v0, v1, v2, v3, v4, v5, v6, v7], x < 4294967296 := HSL.out
          have o0 : v0 < 4294967296 := hv _ (by simp)
          have o1 : v1 < 4294967296 := hv _ (by simp)
          have o2 : v2 < 4294967296 := hv _ (by simp)
          have o3 : v3 < 4294967296 := hv _ (by simp)
          have o4 : v4 < 4294967296 := hv _ (by simp)
          have o5 : v5 < 4294967296 := hv _ (by simp)
          have o6 : v6 < 4294967296 := hv _ (by simp)
          have o7 : v7 < 4294967296 := hv _ (by simp)
          have M1 : ∀ W : World, Calls Tryz.prog 284 #[.int .u32 (v4 : Int), .int .i64 6, .int .i64 11, .int .i64 (-25)] W fun e w' => e = .returned (.int .u32 ((mixR v4 6 11 25 : Nat) : Int)) ∧ W = w' := fun W => mix_r1 W v4 o4
          have M2 : ∀ W : World, Calls Tryz.prog 284 #[.int .u32 (v0 : Int), .int .i64 2, .int .i64 13, .int .i64 (-22)] W fun e w' => e = .returned (.int .u32 ((mixR v0 2 13 22 : Nat) : Int)) ∧ W = w' := fun W => mix_r2 W v0 o0
          have lm1 := mixR_lt o4 6 11 25
          have lm2 := mixR_lt o0 2 13 22
          have hN := HNX.out
          rw [HEL.out] at hN
          have hN2 : L' = [sadd (sadd (sadd (sadd (sadd v7 (mixR v4 6 11 25)) ((v4 &&& v5) ^^^ ((4294967295 ^^^ v4) &&& v6))) kt) wt) (sadd (mixR v0 2 13 22) (((v0 &&& v1) ||| (v0 &&& v2)) ||| (v1 &&& v2))), v0, v1, v2, sadd v3 (sadd (sadd (sadd (sadd v7 (mixR v4 6 11 25)) ((v4 &&& v5) ^^^ ((4294967295 ^^^ v4) &&& v6))) kt) wt), v4, v5, v6] := hN
          generalize mixR v4 6 11 25 = m1 at *
          generalize mixR v0 2 13 22 = m2 at *
          obtain ⟨n1, e1, l1⟩ := nameAnd v4 v5 o4 o5
          obtain ⟨n2, e2, l2⟩ := nameNot v4 o4
          obtain ⟨n3, e3, l3⟩ := nameAnd n2 v6 l2 o6
          obtain ⟨n4, e4, l4⟩ := nameXor n1 n3 l1 l3
          obtain ⟨y1, f1, g1⟩ := nameAdd v7 m1
          obtain ⟨y2, f2, g2⟩ := nameAdd y1 n4
          obtain ⟨y3, f3, g3⟩ := nameAdd y2 kt
          obtain ⟨y4, f4, g4⟩ := nameAdd y3 wt
          obtain ⟨n5, e5, l5⟩ := nameAnd v0 v1 o0 o1
          obtain ⟨n6, e6, l6⟩ := nameAnd v0 v2 o0 o2
          obtain ⟨n7, e7, l7⟩ := nameOr n5 n6 l5 l6
          obtain ⟨n8, e8, l8⟩ := nameAnd v1 v2 o1 o2
          obtain ⟨n9, e9, l9⟩ := nameOr n7 n8 l7 l8
          obtain ⟨y5, f5, g5⟩ := nameAdd m2 n9
          obtain ⟨y6, f6, g6⟩ := nameAdd y4 y5
          obtain ⟨y7, f7, g7⟩ := nameAdd v3 y4
          rw [e1.1, e2.1, e3.1, e4.1, f1.1, f2.1, f3.1, f4.1, e5.1, e6.1, e7.1, e8.1, e9.1, f5.1, f6.1, f7.1] at hN2
          have HN2 := Lib.hid hN2
          obtain ⟨_, e1⟩ := e1
          obtain ⟨_, e2⟩ := e2
          obtain ⟨_, e3⟩ := e3
          obtain ⟨_, e4⟩ := e4
          obtain ⟨_, e5⟩ := e5
          obtain ⟨_, e6⟩ := e6
          obtain ⟨_, e7⟩ := e7
          obtain ⟨_, e8⟩ := e8
          obtain ⟨_, e9⟩ := e9
          obtain ⟨_, f1, f1'⟩ := f1
          obtain ⟨_, f2, f2'⟩ := f2
          obtain ⟨_, f3, f3'⟩ := f3
          obtain ⟨_, f4, f4'⟩ := f4
          obtain ⟨_, f5, f5'⟩ := f5
          obtain ⟨_, f6, f6'⟩ := f6
          obtain ⟨_, f7, f7'⟩ := f7
          clear hv hN hN2
          go_wp2_with fail
          go_quiet (fail)
          revert nq
          intro nq1
          go_wp2_with fail
          go_quiet ((go_at_call 284; exact quiet_add_left (M1 _)))
          revert nq
          intro nq2
          go_wp2_with fail
          go_quiet ((go_at_call 284; exact quiet_add_left (M2 _)))
          go_wp2_with fail
          obtain ⟨wq, hwq⟩ : ∃ wq, wq = (wr.drewN (nq1 + nq2)).drewN nq := ⟨_, rfl⟩
          rw [← hwq]
          have bQ : HB wq V 350 [v0, v1, v2, v3, v4, v5, v6, v7] := by rw [hwq]; exact HBL.out
          have hgq : z.grownBy wq (some V) := by rw [hwq]; exact grow_drewN (grow_drewN hg.out _) _
          clear hwq
          have hcp : (Builtin.copy_ #[339, 339] 3 #[.slice (some ⟨V, 1, none⟩) 7 7, .slice (some ⟨V, 0, none⟩) 7 8]).run Tryz.prog wq.drew = .ok (.int .i64 7) (wq.drew.setCells V 1 ([v0, v1, v2, v3, v4, v5, v6].map c32)) := by
            have bQd : Blk wq.drew V 350 ([v0, v1, v2, v3, v4, v5, v6, v7].map c32) := bQ
            have := run_copy_cells (P := Tryz.prog) wq.drew 339 339 3 33 V 1 7 7 ⟨V, 0, none⟩ 7 8 ([v0, v1, v2, v3, v4, v5, v6].map c32) Tryz.underlying339 info_u32 (by simp) ?_ ?_ ?_ ?_
            · exact this
            · intro j v hj
              have hj7 : j < 7 := by have := (List.getElem?_eq_some_iff.1 hj).1; simpa using this
              rw [show (⟨V, 0, none⟩ : Addr).add j = ⟨V, j, none⟩ from by cases j <;> simp [Addr.add], Blk.cell bQd j, ← hj, List.getElem?_map, List.getElem?_map]
              congr 1
              rcases j with _ | _ | _ | _ | _ | _ | _ | j <;> first | rfl | omega
            · intro j hj
              have hj7 : j < 7 := by simpa using hj
              rw [Blk.cell bQd (1 + j), List.getElem?_eq_getElem (by simp; omega)]
              rfl
            · intro j hj
              exact Blk.frozen bQd _
            · intro v hv
              obtain ⟨n, _, rfl⟩ := List.mem_map.1 hv
              rfl
          have bC : HB (wq.drew.setCells V 1 ([v0, v1, v2, v3, v4, v5, v6].map c32)) V 350 [v0, v0, v1, v2, v3, v4, v5, v6] := by
            have bQd : HB wq.drew V 350 [v0, v1, v2, v3, v4, v5, v6, v7] := bQ
            exact ((((((bQd.set 1 v0).set 2 v1).set 3 v2).set 4 v3).set 5 v4).set 6 v5).set 7 v6
          clear c0 c1 c2 c3 c4 c5 c6 c7
          obtain ⟨wc, hwc⟩ : ∃ wc, wc = wq.drew.setCells V 1 ([v0, v1, v2, v3, v4, v5, v6].map c32) := ⟨_, rfl⟩
          rw [← hwc] at hcp bC
          have hgc : z.grownBy wc (some V) := by rw [hwc]; exact grow_setCells _ _ _ _ _ (grow_drew hgq)
          clear hwc
          obtain ⟨d0, d1, d2, d3, d4, d5, d6, d7⟩ := bC.eight
          have h0 : wc.frozen? ⟨V, 0, none⟩ = false := Blk.frozen bC 0
          have h4 : wc.frozen? ⟨V, 4, none⟩ = false := Blk.frozen bC 4
          have bE : HB ((wc.setCell ⟨V, 4, none⟩ (.int .u32 (y7 : Int))).setCell ⟨V, 0, none⟩ (.int .u32 (y6 : Int))) V 350 L' := by
            have := (bC.set 4 y7).set 0 y6
            rw [HN2.out]
            exact this
          have hge := grow_setCell (grow_setCell hgc 4 (.int .u32 (y7 : Int))) 0 (.int .u32 (y6 : Int))
          have HBE := Lib.hid bE
          have HGE := Lib.hid hge
          clear bE hge bC hgc bQ hgq hg
          go_region
          all_goals
            go_wp2_with fail
            go_roundw
            case rel =>
              rw [show ((v3 : Int) + ((y1 : Int) + (n4 : Int) + (kt : Int) + (wt : Int))) % 4294967296 = (y7 : Int) from by omega, show ((y1 : Int) + (n4 : Int) + (kt : Int) + (wt : Int) + (y5 : Int)) % 4294967296 = (y6 : Int) from by omega]
              exact ⟨t + 1, by omega, by go_num, by rw [← HLN.out]; exact HBE, HGE⟩
            case measure => simp [intOf]; omega
        · obtain rfl : t = 64 := by omega
          clear hlt
          obtain ⟨r, hr⟩ : ∃ r, r = shaRs (sched b 64) s 64 := ⟨_, rfl⟩
          have lr : r.length = 8 := by rw [hr]; exact shaRs_length (sched b 64) s HS.out 64
          have sr : Small32 r := by rw [hr]; exact shaRs_small (sched b 64) s HS2.out 64
          have bV2 := hL.out
          rw [← hr] at bV2
          have bS2 : HB wr B 350 (sumK s r 0) := Blk.kept HBS.out hg.out (by simp; omega)
          have bR2 : HB wr (B + 1) 350 [0, 0, 0, 0, 0, 0, 0, 0] := Blk.kept HBR.out hg.out (by simp; omega)
          have hgw : w.grownBy wr none := grow_trans_new HGZ.out hg.out (by have := HB0.out; omega)
          have hfin : A32 (takenL s b) = A32 (sumK s r 8) := by rw [sumK_all s r HS.out lr, hr]; rfl
          have HFIN := Lib.hid hfin
          have HLR := Lib.hid lr
          have HSR := Lib.hid sr
          have HBV := Lib.hid bV2
          have HBS := Lib.hid bS2
          have HBR := Lib.hid bR2
          have HGW := Lib.hid hgw
          clear hr lr sr bV2 bS2 bR2 hgw hfin hL hg
          go_wp2_with fail
          go_loopw [118] (fun v118 wr => ∃ i : Nat, i ≤ 8 ∧ v118 = .int .i64 i ∧ Hid (HB wr B 350 (sumK s r i)) ∧ Hid (HB wr V 350 r) ∧ Hid (HB wr (B + 1) 350 [0, 0, 0, 0, 0, 0, 0, 0]) ∧ Hid (w.grownBy wr none)) (fun v118 _ => 8 - (intOf v118).toNat)
          case atStart => exact ⟨0, by omega, rfl, HBS, HBV, HBR, HGW⟩
          case round =>
            clear HBS HBV HBR HGW
            obtain ⟨i, hi, rfl, hL, HBV, HBR, hg⟩ := hrel
            by_cases hlt : i < 8
            · have bv := HBV.out
              have cv : wr.cell? ⟨V, i, none⟩ = some (.int .u32 ((r.getD i 0 : Nat) : Int)) := by
                have := HB.cell bv i (by rw [HLR.out]; exact hlt)
                rw [this, List.getD_eq_getElem?_getD, List.getElem?_eq_getElem (by rw [HLR.out]; exact hlt)]
                rfl
              have cs : wr.cell? ⟨B, i, none⟩ = some (.int .u32 ((s.getD i 0 : Nat) : Int)) := by
                have := HB.cell hL.out i (by rw [sumK_length s r HS.out HLR.out i hi]; exact hlt)
                rw [this, sumK_at s r HS.out HLR.out i hlt]
              have hf : wr.frozen? ⟨B, i, none⟩ = false := Blk.frozen hL.out i
              have hst := hL.out.set i (sadd (s.getD i 0) (r.getD i 0))
              rw [sumK_set s r HS.out HLR.out i hlt] at hst
              have hgs := grow_setCell_new hg.out ⟨B, i, none⟩ (by have := HB0.out; simp; omega) (.int .u32 ((sadd (s.getD i 0) (r.getD i 0) : Nat) : Int))
              have gs1 := grow_setCell (grow_refl wr (some B)) i (.int .u32 ((sadd (s.getD i 0) (r.getD i 0) : Nat) : Int))
              have hV2 : HB (wr.setCell ⟨B, i, none⟩ (.int .u32 ((sadd (s.getD i 0) (r.getD i 0) : Nat) : Int))) V 350 r := Blk.kept HBV.out gs1 (by simp; omega)
              have hR2 : HB (wr.setCell ⟨B, i, none⟩ (.int .u32 ((sadd (s.getD i 0) (r.getD i 0) : Nat) : Int))) (B + 1) 350 [0, 0, 0, 0, 0, 0, 0, 0] := Blk.kept HBR.out gs1 (by simp)
              obtain ⟨q, hq, lq⟩ := nameAdd (s.getD i 0) (r.getD i 0)
              rw [hq.1] at hst hgs hV2 hR2
              obtain ⟨_, q1, q2⟩ := hq
              have HST := Lib.hid hst
              have HGS := Lib.hid hgs
              have HV2 := Lib.hid hV2
              have HR2 := Lib.hid hR2
              have i8 : (i : Int) < 8 := by omega
              generalize s.getD i 0 = xs at *
              generalize r.getD i 0 = xr at *
              clear hst hgs bv hL hg gs1 hV2 hR2
              go_wp2_with fail
              go_still_tail 8, (by kernel_rfl)
              change wpList _ _ _ _ _ wr.drew
              go_wp2_with fail
              go_roundw
              case rel => exact ⟨_, _, _, _, _, _, _, _, _, _, _, _, _, ⟨i + 1, by omega, by go_num, HST, HV2, HR2, grow_drew HGS⟩, rfl⟩
              case measure => simp [intOf]; omega
            · obtain rfl : i = 8 := by omega
              clear hlt
              have lS := sumK_length s r HS.out HLR.out 8 hi
              have bS := hL.out
              have bR := HBR.out
              generalize sumK s r 8 = S' at *
              obtain ⟨a0, a1, a2, a3, a4, a5, a6, a7, es⟩ := eight lS
              rw [es] at bS
              obtain ⟨c0, c1, c2, c3, c4, c5, c6, c7⟩ := bS.eight
              obtain ⟨z0, z1, z2, z3, z4, z5, z6, z7⟩ := HB.eight bR
              have f0 := Blk.frozen bR 0
              have f1 := Blk.frozen bR 1
              have f2 := Blk.frozen bR 2
              have f3 := Blk.frozen bR 3
              have f4 := Blk.frozen bR 4
              have f5 := Blk.frozen bR 5
              have f6 := Blk.frozen bR 6
              have f7 := Blk.frozen bR 7
              have HES := Lib.hid es
              skip
              have HZ := Lib.hid HB0.out
              clear es lS bS bR hL
              go_wp2_with fail
              refine bodyPost_ret (v := .agg #[.int .u32 (a0 : Int), .int .u32 (a1 : Int), .int .u32 (a2 : Int), .int .u32 (a3 : Int), .int .u32 (a4 : Int), .int .u32 (a5 : Int), .int .u32 (a6 : Int), .int .u32 (a7 : Int)]) (by simp [results, Tryz.results265, go_sem, z0, z1, z2, z3, z4, z5, z6, z7]) rfl ?_
              refine ⟨by have e := HFIN.out; unfold A32 at e; rw [e, HES.out]; rfl, ?_⟩
              have hz : w.heap.size ≤ B + 1 := by have := HZ.out; omega
              exact grow_setCell_new (grow_setCell_new (grow_setCell_new (grow_setCell_new (grow_setCell_new (grow_setCell_new (grow_setCell_new (grow_setCell_new hg.out _ hz _) _ hz _) _ hz _) _ hz _) _ hz _) _ hz _) _ hz _) _ hz _

end Go.Proofs.YtmomfbkpniblgaaGreatDoor
