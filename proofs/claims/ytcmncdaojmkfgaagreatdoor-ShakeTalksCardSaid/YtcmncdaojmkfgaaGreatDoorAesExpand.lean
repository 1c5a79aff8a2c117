/- AES: keys expanded. -/
import Derived.Test.YtcmncdaojmkfgaaGreatDoorR18
import Derived.Test.YtcmncdaojmkfgaaGreatDoorBro
import Derived.Deep.DeepCutAuto
import Derived.Deep.CutBlock
import Derived.StillTailTactics
import Derived.Deep.Cut
import Derived.Deep.RegionWith
import Derived.Great.Walk
import Derived.Laws.Cover3
namespace Go.Proofs.YtcmncdaojmkfgaaGreatDoor
open Go.RowKit
set_option linter.unusedVariables false

/-- A word of four bytes. -/
def WB4 (w : World) (B : Nat) (l : List UInt8) : Prop := Blk w B 244 (l.map bcell)
theorem WB4.cell {w : World} {B : Nat} {l : List UInt8} (h : WB4 w B l) (i : Nat) (hi : i < l.length) : w.cell? ⟨B, i, none⟩ = some (.int .u8 (l[i].toNat : Int)) := by
  rw [Blk.cell h]
  simp [bcell, hi]
theorem WB4.set {w : World} {B : Nat} {l : List UInt8} (h : WB4 w B l) (i : Nat) (c : UInt8) : WB4 (w.setCell ⟨B, i, none⟩ (.int .u8 (c.toNat : Int))) B (l.set i c) := by
  have := Blk.set h i (bcell c)
  unfold WB4
  rw [List.map_set]
  exact this

theorem Tab.below {w w' : World} {T n : Nat} (h : Tab w T) (hT : T < n) (g : Below n w w') : Tab w' T := by
  obtain ⟨c, h1, h2⟩ := h
  refine ⟨c, ?_, h2⟩
  rw [g.block T hT]
  exact h1

theorem bro.cellAt {w : World} {base g n cap : Nat} {l : List UInt8} (h : bro w base (.slice (some ⟨g, 0, none⟩) n cap) l) (i : Nat) (hi : i < l.length) : w.cell? ⟨g, i, none⟩ = some (.int .u8 (l[i].toNat : Int)) := by
  obtain ⟨b, c, hv, _, _, _, _, h5, _⟩ := h
  cases hv
  exact h5.cell i hi

/-- The first k are turned by one, through the table. -/
def rotK (l : List UInt8) (k : Nat) : List UInt8 := ((l.drop 1).map gsubB).take k ++ l.drop k
theorem rotK_length (l : List UInt8) (k : Nat) (h : k + 1 ≤ l.length) : (rotK l k).length = l.length := by
  unfold rotK
  rw [List.length_append, List.length_take, List.length_map, List.length_drop, List.length_drop]
  omega
theorem rotK_at (l : List UInt8) (k j : Nat) (h : k + 1 ≤ l.length) (hj : j < l.length) (hkj : k ≤ j) : (rotK l k)[j]'(by rw [rotK_length l k h]; exact hj) = l[j] := by
  have lt : (((l.drop 1).map gsubB).take k).length = k := by rw [List.length_take, List.length_map, List.length_drop]; omega
  unfold rotK
  rw [List.getElem_append_right (by omega), List.getElem_drop]
  congr 1
  omega
theorem rotK_set (l : List UInt8) (k : Nat) (h : k + 1 < l.length) : (rotK l k).set k (gsubB l[k + 1]) = rotK l (k + 1) := by
  have lt : (((l.drop 1).map gsubB).take k).length = k := by rw [List.length_take, List.length_map, List.length_drop]; omega
  have e : l.drop k = l[k] :: l.drop (k + 1) := List.drop_eq_getElem_cons (by omega)
  unfold rotK
  rw [List.set_append_right _ _ (by omega), lt, Nat.sub_self, e, List.set_cons_zero, List.take_succ_eq_append_getElem (by rw [List.length_map, List.length_drop]; omega), List.append_assoc]
  have e2 : ((l.drop 1).map gsubB)[k]'(by rw [List.length_map, List.length_drop]; omega) = gsubB l[k + 1] := by
    rw [List.getElem_map, List.getElem_drop]
    congr 2
    omega
  rw [e2]
  rfl

theorem idx4_0 (w : World) (a0 a1 a2 a3 : Int) : (Instr.index 244 (.agg #[.int .u8 a0, .int .u8 a1, .int .u8 a2, .int .u8 a3]) (.int .i64 0)).run Tryz.prog w = .ok (.int .u8 a0) w := by kernel_rfl
theorem idx4_1 (w : World) (a0 a1 a2 a3 : Int) : (Instr.index 244 (.agg #[.int .u8 a0, .int .u8 a1, .int .u8 a2, .int .u8 a3]) (.int .i64 1)).run Tryz.prog w = .ok (.int .u8 a1) w := by kernel_rfl
theorem idx4_2 (w : World) (a0 a1 a2 a3 : Int) : (Instr.index 244 (.agg #[.int .u8 a0, .int .u8 a1, .int .u8 a2, .int .u8 a3]) (.int .i64 2)).run Tryz.prog w = .ok (.int .u8 a2) w := by kernel_rfl
theorem idx4_3 (w : World) (a0 a1 a2 a3 : Int) : (Instr.index 244 (.agg #[.int .u8 a0, .int .u8 a1, .int .u8 a2, .int .u8 a3]) (.int .i64 3)).run Tryz.prog w = .ok (.int .u8 a3) w := by kernel_rfl
theorem idx4 (w : World) (a0 a1 a2 a3 : UInt8) (k : Nat) (hk : k < [a0, a1, a2, a3].length) :
    (Instr.index 244 (.agg #[.int .u8 (a0.toNat : Int), .int .u8 (a1.toNat : Int), .int .u8 (a2.toNat : Int), .int .u8 (a3.toNat : Int)]) (.int .i64 (k : Int))).run Tryz.prog w = .ok (.int .u8 ([a0, a1, a2, a3][k].toNat : Int)) w := by
  match k, hk with
  | 0, _ => exact idx4_0 w _ _ _ _
  | 1, _ => exact idx4_1 w _ _ _ _
  | 2, _ => exact idx4_2 w _ _ _ _
  | 3, _ => exact idx4_3 w _ _ _ _

theorem four {b : List UInt8} (h : b.length = 4) : ∃ a0 a1 a2 a3, b = [a0, a1, a2, a3] := by
  match b, h with
  | [a0, a1, a2, a3], _ => exact ⟨a0, a1, a2, a3, rfl⟩

theorem lastW_0 (n i : Nat) (p a0 a1 a2 a3 : UInt8) (h : i % n = 0) : lastW n i p [a0, a1, a2, a3] = ((rotK [a0, a1, a2, a3] 3).set 3 (gsubB a0)).set 0 (gsubB a1 ^^^ p) := by
  unfold lastW; rw [if_pos h]; rfl
theorem lastW_4 (n i : Nat) (p a0 a1 a2 a3 : UInt8) (h : ¬ i % n = 0) (h2 : n = 8 ∧ i % n = 4) : lastW n i p [a0, a1, a2, a3] = mapK gsubB [a0, a1, a2, a3] 4 := by
  unfold lastW; rw [if_neg h, if_pos h2]; rfl
theorem lastW_n (n i : Nat) (p a0 a1 a2 a3 : UInt8) (h : ¬ i % n = 0) (h2 : ¬ (n = 8 ∧ i % n = 4)) : lastW n i p [a0, a1, a2, a3] = [a0, a1, a2, a3] := by
  unfold lastW; rw [if_neg h, if_neg h2]

set_option maxRecDepth 20000 in
set_option maxHeartbeats 2000000 in
theorem code_expandT (w : World) (T n : Nat) (key : List UInt8) (hT : Tab w T) (hk : key.length = 4 * n) (hn : n = 4 ∨ n = 8) :
    Calls Tryz.prog 173 #[.pointer (some ⟨T, 0, none⟩), S key] w fun e w' => e = .returned (S (expL key)) ∧ w.grownBy w' none := by
  have hTl := TabK.lt hT
  have hTw : ∀ W : World, Below w.heap.size w W → Hid (Tab W T) := fun W g => Lib.hid (hT.below hTl g)
  obtain ⟨v, x, hcv, hbr, hgx⟩ := to_bro w key (by unfold maxLen; omega)
  have hfin : expL key = expF n (3 * n + 28) n 1 key := by
    unfold expL
    rw [hk, Nat.mul_div_cancel_left n (by omega : 0 < 4)]
  have HF := Lib.hid hfin
  have hbx : Below w.heap.size w x := grow_below hgx _ (Nat.le_refl _) (by simp)
  clear hfin hT hgx
  have q0 : (key.length : Int) / 4 = (n : Int) := by omega
  have HK := Lib.hid hk
  clear hk
  unfold S
  go_enter Tryz.func173, Tryz.ntmps173
  go_wp2_with fail
  clear hcv
  go_loopw [6, 7, 8] (fun vw vp vi wr => ∃ (i k : Nat) (p : UInt8) (L : List UInt8), n ≤ i ∧ i ≤ 4 * (n + 7) ∧ vi = .int .i64 i ∧ vp = .int .u8 (p.toNat : Int) ∧ Hid (bro wr w.heap.size vw L) ∧ L.length = 4 * k + 4 ∧ i = k + 1 ∧ Hid (expF n (4 * (n + 7) - i) i p L = expL key) ∧ Below w.heap.size w wr) (fun _ _ vi _ => 4 * (n + 7) - (intOf vi).toNat)
  case atStart => exact ⟨n, n - 1, 1, key, by omega, by omega, rfl, rfl, hbr, by have := HK.out; omega, by omega, by rw [HF.out, show 4 * (n + 7) - n = 3 * n + 28 from by omega]; rfl, hbx⟩
  case round =>
    clear hbr hbx
    obtain ⟨i, k, p, L, hi1, hi2, rfl, rfl, hbr, hL, hik, hE, HB⟩ := hrel
    have hn1 : (0 : Int) < (n : Int) := by omega
    have m1 : (4 : Int) * ((n : Int) + 7) = 4 * (n : Int) + 28 := by omega
    by_cases hlt : i < 4 * (n + 7)
    · have hd : decide ((i : Int) < 4 * (n : Int) + 28) = true := by simp; omega
      obtain ⟨g, cap, hv, hg1, hg2, hg3, hg4, h5, h6⟩ := id hbr.out
      subst hv
      have c0 := h5.cell (4 * k) (by omega)
      have c1 := h5.cell (4 * k + 1) (by omega)
      have c2 := h5.cell (4 * k + 2) (by omega)
      have c3 := h5.cell (4 * k + 3) (by omega)
      have hlast : L.drop (L.length - 4) = [L[4 * k]'(by omega), L[4 * k + 1]'(by omega), L[4 * k + 2]'(by omega), L[4 * k + 3]'(by omega)] := by
        rw [show L.length - 4 = 4 * k from by omega, List.drop_eq_getElem_cons (by omega), List.drop_eq_getElem_cons (by omega), List.drop_eq_getElem_cons (by omega), List.drop_eq_getElem_cons (by omega), List.drop_of_length_le (by omega)]
      have HLast := Lib.hid hlast
      generalize L[4 * k]'_ = a0 at *
      generalize L[4 * k + 1]'_ = a1 at *
      generalize L[4 * k + 2]'_ = a2 at *
      generalize L[4 * k + 3]'_ = a3 at *
      have HLen := Lib.hid hL
      have HIK := Lib.hid hik
      obtain ⟨z, hz⟩ : ∃ z : Nat, z = 4 * k := ⟨_, rfl⟩
      rw [← hz] at c0 c1 c2 c3 hL
      have s1 : (4 : Int) ≤ (L.length : Int) := by omega
      have s2 : (L.length : Int) - 4 = (z : Int) := by omega
      have s3 : (z : Int) ≤ (L.length : Int) := by omega
      have s4 : (0 : Int) ≤ (z : Int) := by omega
      have s5 : L.length - z = 4 := by omega
      have s6 : IntKind.i64.wrap (z : Int) = (z : Int) := IntWalk.i64_in _ (by omega)
      have HZ := Lib.hid hz
      clear hlast hz h5 h6 hik hL hg4
      have hat := fun W : World => run_arrayAt (P := Tryz.prog) (w := W) 244 5 4 (some ⟨g, z, none⟩) 4 (cap - z) Tryz.underlying244 (Nat.le_refl _)
      go_upto_block 2 with (fail)
      clear hat
      obtain ⟨B, hBe⟩ : ∃ B, B = wr.heap.size := ⟨_, rfl⟩
      have hWy : WB4 (wr.alloc (.cells #[.int .u8 (a0.toNat : Int), .int .u8 (a1.toNat : Int), .int .u8 (a2.toNat : Int), .int .u8 (a3.toNat : Int)] 244)) B [a0, a1, a2, a3] := by rw [hBe]; exact obj_new wr _
      have hgy : wr.grownBy (wr.alloc (.cells #[.int .u8 (a0.toNat : Int), .int .u8 (a1.toNat : Int), .int .u8 (a2.toNat : Int), .int .u8 (a3.toNat : Int)] 244)) none := grow_alloc (grow_refl _ _) _
      rw [← hBe]
      generalize wr.alloc (.cells #[.int .u8 (a0.toNat : Int), .int .u8 (a1.toNat : Int), .int .u8 (a2.toNat : Int), .int .u8 (a3.toNat : Int)] 244) = y at *
      have hBw : w.heap.size ≤ B := by rw [hBe]; exact HB.size
      have hBT : T < B := by omega
      have hgB : g < B := by omega
      have HBR := Lib.hid (hbr.out.kept hgy nofun)
      have HBy : Below w.heap.size w y := below_step HB hgy nofun
      have HTy := hTw y HBy
      have HGY := Lib.hid hgy
      clear hBe c0 c1 c2 c3 hgy hbr
      have HWY := Lib.hid hWy
      clear hWy
      obtain ⟨l4, hl4⟩ : ∃ l4, l4 = [a0, a1, a2, a3] := ⟨_, rfl⟩
      have hl44 : l4.length = 4 := by rw [hl4]; rfl
      rw [← hl4] at HWY HLast
      have HL4 := Lib.hid hl4
      clear hl4
      have HL44 := Lib.hid hl44
      clear hl44
      have HTT : ∀ W : World, y.grownBy W (some B) → ∀ c : UInt8, W.cell? ⟨T, c.toNat, none⟩ = some (.int .u8 ((gsubB c).toNat : Int)) := fun W g c => Tab.sub (Tab.kept HTy.out g (by simp; omega)) c
      have HTH := Lib.hid HTT
      clear HTT
      go_cut [7] (fun vp wx => ∃ q : UInt8, vp = .int .u8 (q.toNat : Int) ∧ Hid (q = powS n i p) ∧ Hid (WB4 wx B (lastW n i p l4)) ∧ y.grownBy wx (some B))
      case first =>
        clear hTw s1 s2 s3 s4 s5 s6 m1
        by_cases hz0 : i % n = 0
        · have q1 : ((i : Int) % (n : Int) == 0) = true := by
            have : (i : Int) % (n : Int) = 0 := by omega
            simpa using this
          have hl : Hid (lastW n i p l4 = ((rotK l4 3).set 3 (gsubB a0)).set 0 (gsubB a1 ^^^ p)) := Lib.hid (by rw [HL4.out]; exact lastW_0 n i p a0 a1 a2 a3 hz0)
          have hpw : Hid (gmulB p 2 = powS n i p) := Lib.hid (by unfold powS; rw [if_pos hz0])
          have d0 : y.cell? ⟨B, 0, none⟩ = some (.int .u8 (a0.toNat : Int)) := by
            have := HWY.out.cell 0 (by rw [HL44.out]; omega)
            rw [this]
            simp only [HL4.out]
            rfl
          clear hz0
          go_wp2_with fail
          go_loopw [43, 11] (fun vm vk wr => ∃ m : Nat, m ≤ 3 ∧ vm = .int .i64 m ∧ WB4 wr B (rotK l4 m) ∧ y.grownBy wr (some B)) (fun vm _ _ => 3 - (intOf vm).toNat)
          case atStart => exact ⟨0, by omega, rfl, HWY.out, grow_refl _ _⟩
          case round =>
            obtain ⟨m, hm, rfl, hK, hg⟩ := hrel
            clear d0
            by_cases hlm : m < 3
            · have e1 := hK.cell (m + 1) (by rw [rotK_length _ _ (by rw [HL44.out]; omega), HL44.out]; omega)
              rw [rotK_at _ _ _ (by rw [HL44.out]; omega) (by rw [HL44.out]; omega) (by omega)] at e1
              have e2 := hK.cell m (by rw [rotK_length _ _ (by rw [HL44.out]; omega), HL44.out]; omega)
              have f2 := Blk.frozen hK m
              have ct := HTH.out wr hg (l4[m + 1]'(by rw [HL44.out]; omega))
              have hst := hK.set m (gsubB (l4[m + 1]'(by rw [HL44.out]; omega)))
              rw [rotK_set _ _ (by rw [HL44.out]; omega)] at hst
              have hgs := grow_setCell hg m (.int .u8 ((gsubB (l4[m + 1]'(by rw [HL44.out]; omega))).toNat : Int))
              have HS := Lib.hid (And.intro hst hgs)
              clear hst hgs hK hg
              generalize gsubB (l4[m + 1]'_) = dd at *
              have ub := u8_lt (l4[m + 1]'(by rw [HL44.out]; omega))
              generalize l4[m + 1]'_ = cc at *
              have i0 : (0 : Int) ≤ (m : Int) := by omega
              have i1 : (m : Int) < 4 := by omega
              have i2 : (0 : Int) ≤ (m : Int) + 1 := by omega
              have i3 : (m : Int) + 1 < 4 := by omega
              have i4 : IntKind.i64.wrap ((m : Int) + 1) = (m : Int) + 1 := IntWalk.i64_in _ (by omega)
              have i5 : ((m : Int) + 1).toNat = m + 1 := by omega
              have j0 : (0 : Int) ≤ (cc.toNat : Int) := by omega
              have j1 : (cc.toNat : Int) < 256 := by omega
              go_wp2_with fail
              go_still_tail 11, (by kernel_rfl)
              change wpList _ _ _ _ _ wr.drew
              go_wp2_with fail
              go_roundw
              case rel => exact ⟨m + 1, by omega, by go_num, HS.out.1, grow_drew HS.out.2⟩
              case measure => simp [intOf]; omega
            · obtain rfl : m = 3 := by omega
              have rl := rotK_length l4 3 (by rw [HL44.out]; omega)
              rw [HL44.out] at rl
              have ct := HTH.out wr hg a0
              have e3 := hK.cell 3 (by omega)
              have f3 := Blk.frozen hK 3
              have f0 := Blk.frozen hK 0
              have e0 : wr.cell? ⟨B, 0, none⟩ = some (.int .u8 ((gsubB a1).toNat : Int)) := by
                have := hK.cell 0 (by omega)
                rw [this]
                simp only [HL4.out]
                rfl
              have hst := (hK.set 3 (gsubB a0)).set 0 (gsubB a1 ^^^ p)
              rw [← hl.out] at hst
              have hgs := grow_setCell (grow_setCell hg 3 (.int .u8 ((gsubB a0).toNat : Int))) 0 (.int .u8 ((gsubB a1 ^^^ p).toNat : Int))
              have HS := Lib.hid (And.intro hst hgs)
              have xb := xor_byte (gsubB a1) p
              have hA : ∀ W : World, Calls Tryz.prog 178 #[.int .u8 (p.toNat : Nat), .int .u8 2] W fun e w' => e = .returned (.int .u8 ((gmulB p 2).toNat : Nat)) ∧ W = w' := fun W => by
                rw [toNat_gmulB]
                exact galois_mul p.toNat 2 W (u8_lt p) (by omega)
              generalize (rotK l4 3)[3]'_ = r3 at *
              clear hst hgs hK hg rl
              generalize gsubB a1 ^^^ p = x0 at *
              generalize gsubB a0 = s0 at *
              generalize gsubB a1 = s1 at *
              have j0 : (0 : Int) ≤ (a0.toNat : Int) := by omega
              have j1 : (a0.toNat : Int) < 256 := by have := u8_lt a0; omega
              go_wp2_with fail
              refine (hA _).mono ?_
              rintro e w9 ⟨rfl, rfl⟩
              go_wp2_with fail
              go_meet
              exact ⟨_, rfl, hpw, Lib.hid HS.out.1, HS.out.2⟩
        · have q1 : ((i : Int) % (n : Int) == 0) = false := by
            have : ¬ (i : Int) % (n : Int) = 0 := by omega
            simpa using this
          have hpw : Hid (p = powS n i p) := Lib.hid (by unfold powS; rw [if_neg hz0])
          by_cases hz4 : n = 8 ∧ i % n = 4
          · have hl : Hid (lastW n i p l4 = mapK gsubB l4 4) := Lib.hid (by rw [HL4.out]; exact lastW_4 n i p a0 a1 a2 a3 hz0 hz4)
            have q2 : ((n : Int) == 8) = true := by
              have : (n : Int) = 8 := by omega
              simpa using this
            have q3 : ((i : Int) % (n : Int) == 4) = true := by
              have : (i : Int) % (n : Int) = 4 := by omega
              simpa using this
            have d0 : y.cell? ⟨B, 0, none⟩ = some (.int .u8 (a0.toNat : Int)) := by
              have := HWY.out.cell 0 (by rw [HL44.out]; omega)
              rw [this]; simp only [HL4.out]; rfl
            have d1 : y.cell? ⟨B, 1, none⟩ = some (.int .u8 (a1.toNat : Int)) := by
              have := HWY.out.cell 1 (by rw [HL44.out]; omega)
              rw [this]; simp only [HL4.out]; rfl
            have d2 : y.cell? ⟨B, 2, none⟩ = some (.int .u8 (a2.toNat : Int)) := by
              have := HWY.out.cell 2 (by rw [HL44.out]; omega)
              rw [this]; simp only [HL4.out]; rfl
            have d3 : y.cell? ⟨B, 3, none⟩ = some (.int .u8 (a3.toNat : Int)) := by
              have := HWY.out.cell 3 (by rw [HL44.out]; omega)
              rw [this]; simp only [HL4.out]; rfl
            clear hz0 hz4
            go_wp2_with fail
            go_loopw [82, 12, 13] (fun vm vk vc wr => ∃ m : Nat, m ≤ 4 ∧ vm = .int .i64 m ∧ WB4 wr B (mapK gsubB l4 m) ∧ y.grownBy wr (some B)) (fun vm _ _ _ => 4 - (intOf vm).toNat)
            case atStart => exact ⟨0, by omega, rfl, HWY.out, grow_refl _ _⟩
            case round =>
              clear d0 d1 d2 d3
              obtain ⟨m, hm, rfl, hK, hg⟩ := hrel
              by_cases hlm : m < 4
              · have hml : m < l4.length := by rw [HL44.out]; exact hlm
                have e2 := hK.cell m (by rw [mapK_length]; exact hml)
                have f2 := Blk.frozen hK m
                have ix : ∀ W : World, (Instr.index 244 (.agg #[.int .u8 (a0.toNat : Int), .int .u8 (a1.toNat : Int), .int .u8 (a2.toNat : Int), .int .u8 (a3.toNat : Int)]) (.int .i64 (m : Int))).run Tryz.prog W = .ok (.int .u8 (l4[m].toNat : Int)) W := fun W => by
                  have := idx4 W a0 a1 a2 a3 m (by simpa using hlm)
                  rw [this]; simp only [HL4.out]
                have ct := HTH.out wr hg l4[m]
                have hst := hK.set m (gsubB l4[m])
                rw [mapK_set _ _ _ hml] at hst
                have hgs := grow_setCell hg m (.int .u8 ((gsubB l4[m]).toNat : Int))
                have HS := Lib.hid (And.intro hst hgs)
                clear hst hgs hK hg
                have ub := u8_lt l4[m]
                generalize gsubB l4[m] = dd at *
                generalize l4[m] = cc at *
                generalize (mapK gsubB l4 m)[m]'_ = oo at *
                have j0 : (0 : Int) ≤ (cc.toNat : Int) := by omega
                have j1 : (cc.toNat : Int) < 256 := by omega
                clear hml
                go_wp2_with fail
                go_roundw
                case rel => exact ⟨m + 1, by omega, by go_num, HS.out.1, HS.out.2⟩
                case measure => simp [intOf]; omega
              · obtain rfl : m = 4 := by omega
                rw [← hl.out] at hK
                have HS := Lib.hid (And.intro hK hg)
                clear hK hg
                go_wp2_with fail
                go_meet
                exact ⟨_, rfl, hpw, Lib.hid HS.out.1, HS.out.2⟩
          · have hl : Hid (lastW n i p l4 = l4) := Lib.hid (by
              conv => lhs; rw [HL4.out]
              rw [lastW_n n i p a0 a1 a2 a3 hz0 hz4, HL4.out])
            have HW2 : Hid (WB4 y B (lastW n i p l4)) := Lib.hid (by rw [hl.out]; exact HWY.out)
            by_cases h8 : n = 8
            · have q2 : ((n : Int) == 8) = true := by
                have : (n : Int) = 8 := by omega
                simpa using this
              have q3 : ((i : Int) % (n : Int) == 4) = false := by
                have : ¬ (i : Int) % (n : Int) = 4 := by omega
                simpa using this
              clear hz0 hz4 h8
              go_wp2_with fail
              go_meet
              exact ⟨_, rfl, hpw, HW2, grow_refl _ _⟩
            · have q2 : ((n : Int) == 8) = false := by
                have : ¬ (n : Int) = 8 := by omega
                simpa using this
              clear hz0 hz4 h8
              go_wp2_with fail
              go_meet
              exact ⟨_, rfl, hpw, HW2, grow_refl _ _⟩
      case rest =>
        obtain ⟨q, rfl, hq, hWl, hgc⟩ := hcut
        have hll := lastW_length n i p l4 HL44.out
        obtain ⟨tt, htt⟩ : ∃ tt, tt = lastW n i p l4 := ⟨_, rfl⟩
        rw [← htt] at hWl hll
        obtain ⟨b0, b1, b2, b3, hb⟩ := four hll
        obtain ⟨Z, hZ⟩ : ∃ Z, Z = xorL ((L.drop (4 * (i - n))).take 4) tt := ⟨_, rfl⟩
        have lZ : Z.length = 4 := by rw [hZ, xorL_length, List.length_take, List.length_drop, hll, HLen.out]; have := HIK.out; omega
        have hexp : expS n i p L = L ++ Z := by rw [hZ, htt, expS, HLast.out]
        have HEX := Lib.hid hexp
        have HBc : Below w.heap.size w wc := below_step HBy hgc (by intro k hk; cases hk; exact hBw)
        have HBRc := Lib.hid (HBR.out.kept hgc (by simp [Value.ownBlock]; omega))
        have d0 : wc.cell? ⟨B, 0, none⟩ = some (.int .u8 (b0.toNat : Int)) := by
          have := hWl.out.cell 0 (by omega)
          rw [this]; simp only [hb]; rfl
        have d1 : wc.cell? ⟨B, 1, none⟩ = some (.int .u8 (b1.toNat : Int)) := by
          have := hWl.out.cell 1 (by omega)
          rw [this]; simp only [hb]; rfl
        have d2 : wc.cell? ⟨B, 2, none⟩ = some (.int .u8 (b2.toNat : Int)) := by
          have := hWl.out.cell 2 (by omega)
          rw [this]; simp only [hb]; rfl
        have d3 : wc.cell? ⟨B, 3, none⟩ = some (.int .u8 (b3.toNat : Int)) := by
          have := hWl.out.cell 3 (by omega)
          rw [this]; simp only [hb]; rfl
        have HBB := Lib.hid hb
        have HZZ := Lib.hid hZ
        have HLZ := Lib.hid lZ
        clear hexp hb hZ lZ hll htt hWl hgc HBR HBy HGY HTH HTy HWY s1 s2 s3 s4 s5 s6
        go_wp2_with fail
        go_loopw [6, 14, 15, 96] (fun vw vk vc vm wr => ∃ m : Nat, m ≤ 4 ∧ vm = .int .i64 m ∧ Hid (bro wr w.heap.size vw (L ++ Z.take m)) ∧ Below w.heap.size w wr) (fun _ _ _ vm _ => 4 - (intOf vm).toNat)
        case atStart => exact ⟨0, by omega, rfl, Lib.hid (by rw [List.take_zero, List.append_nil]; exact HBRc.out), HBc⟩
        case round =>
          clear d0 d1 d2 d3 HBRc HBc
          obtain ⟨m, hm, rfl, hK, hg⟩ := hrel
          by_cases hlm : m < 4
          · obtain ⟨g2, cap2, hv, k1, k2, k3, k4, h5, h6⟩ := id hK.out
            subst hv
            obtain ⟨xi, hxi⟩ : ∃ xi : Nat, xi = 4 * (i - n) + m := ⟨_, rfl⟩
            have hik := HIK.out
            have hLn := HLen.out
            have xl : xi < L.length := by omega
            have lt : (Z.take m).length = m := by rw [List.length_take, HLZ.out]; omega
            have ce := h5.cell xi (by rw [List.length_append]; omega)
            rw [List.getElem_append_left xl] at ce
            have q1 : 4 * ((i : Int) - (n : Int)) + (m : Int) = (xi : Int) := by omega
            have q2 : (0 : Int) ≤ (xi : Int) := by omega
            have q3 : (xi : Int) < ((L ++ Z.take m).length : Int) := by rw [List.length_append]; omega
            have ix : ∀ W : World, (Instr.index 244 (.agg #[.int .u8 (b0.toNat : Int), .int .u8 (b1.toNat : Int), .int .u8 (b2.toNat : Int), .int .u8 (b3.toNat : Int)]) (.int .i64 (m : Int))).run Tryz.prog W = .ok (.int .u8 ((tt.getD m 0).toNat : Int)) W := fun W => by
              have := idx4 W b0 b1 b2 b3 m (by simpa using hlm)
              rw [this, HBB.out, List.getD_eq_getElem?_getD, List.getElem?_eq_getElem (by simpa using hlm)]
              rfl
            have xb := xor_byte L[xi] (tt.getD m 0)
            have hnx : L ++ Z.take (m + 1) = (L ++ Z.take m) ++ [L[xi] ^^^ tt.getD m 0] := by
              rw [List.append_assoc, List.take_succ_eq_append_getElem (by rw [HLZ.out]; exact hlm)]
              congr 3
              have : Z[m]'(by rw [HLZ.out]; exact hlm) = (xorL ((L.drop (4 * (i - n))).take 4) tt)[m]'(by rw [← HZZ.out, HLZ.out]; exact hlm) := by simp only [HZZ.out]
              rw [this]
              simp only [xorL, List.getElem_zipWith, List.getElem_take, List.getElem_drop]
              congr 1
              · congr 1; omega
              · rw [List.getD_eq_getElem?_getD, List.getElem?_eq_getElem]; rfl
            obtain ⟨v', w', hr, hb2, hg2'⟩ := bro_app1 (L[xi] ^^^ tt.getD m 0) hK.out (by rw [List.length_append]; omega) hg.size
            rw [← hnx] at hb2
            have HNX := Lib.hid (And.intro hb2 (below_step hg hg2' (by intro k hk; cases hk; exact k1)))
            clear hnx hb2 hg2' h5 h6 hK hg k1 k2 k3 k4 hxi lt hik hLn
            generalize L[xi] ^^^ tt.getD m 0 = z0 at *
            generalize tt.getD m 0 = z1 at *
            generalize L[xi] = z2 at *
            generalize (L ++ Z.take m).length = ln at *
            go_wp2_with (at_builtin; go_must (refine append_run rfl _ _ _ _ v' w' hr rfl rfl rfl rfl ?_))
            clear hr
            go_wp2_with fail
            go_roundw
            case rel => exact ⟨m + 1, by omega, by go_num, Lib.hid HNX.out.1, HNX.out.2⟩
            case measure => simp [intOf]; omega
          · obtain rfl : m = 4 := by omega
            have hK2 : Hid (bro wr w.heap.size u6 (expS n i p L)) := Lib.hid (by rw [HEX.out]; have := hK.out; rwa [List.take_of_length_le (by rw [HLZ.out]; omega)] at this)
            clear hK
            go_wp2_with fail
            go_roundw
            case rel =>
              have hik := HIK.out
              have hLn := HLen.out
              have hx := expS_length n i p L (by omega) hi1 (by omega)
              refine ⟨i + 1, k + 1, q, expS n i p L, by omega, by omega, by go_num, rfl, hK2, by omega, by omega, Lib.hid ?_, hg⟩
              rw [← hE.out, hq.out, show 4 * (n + 7) - i = (4 * (n + 7) - (i + 1)) + 1 from by omega]
              rfl
            case measure => simp [intOf]; omega
    · obtain rfl : i = 4 * (n + 7) := by omega
      have hcb := conv_bro hbr.out
      have hEE : L = expL key := by rw [← hE.out, Nat.sub_self]; rfl
      have HEE := Lib.hid hEE
      clear hEE
      go_wp2_with fail
      go_ret
      exact ⟨by rw [← HEE.out]; rfl, grow_of_below HB⟩

end Go.Proofs.YtcmncdaojmkfgaaGreatDoor
