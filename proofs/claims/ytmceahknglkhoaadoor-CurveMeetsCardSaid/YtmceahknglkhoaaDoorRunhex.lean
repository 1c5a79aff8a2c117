/- The reference's Unhex, at texts of signs. -/
import Derived.Test.YtmceahknglkhoaaDoorZeros
import Derived.Deep.RegionWith
namespace Go.Proofs.YtmceahknglkhoaaDoor
open Go.RowKit
set_option linter.unusedVariables false

theorem brow_lit (w : World) (cs : Array Value) (l : List UInt8) (k : Nat) (hk : l.length = k) (h : cs = (l.map bcell).toArray) (hm : l.length ≤ maxLen) :
    brow (w.alloc (.cells cs 5)) w.heap.size (.slice (some ⟨w.heap.size, 0, none⟩) k k) l := by
  subst h
  subst hk
  have := World.ownsRow_lit (base := w.heap.size) (e := 5) (size := 1) w (l.map bcell).toArray l.length (Nat.le_refl _) hm (by simp)
  exact this

set_option maxHeartbeats 400000 in
theorem code_chr (w : World) (n : Nat) (hn : n < 256) : Calls Tryd.prog 23 #[.int .i64 n] w (Grown (S [UInt8.ofNat n]) w) := by
  have hb := brow_lit w #[.int .u8 n] [UInt8.ofNat n] 1 rfl (by simp [bcell]; omega) (by simp [maxLen])
  have hc := conv_brow hb
  have e1 : (n : Int) % 256 = n := by omega
  unfold S at *
  go_enter Tryd.func23, Tryd.ntmps23
  go_wp2_with fail
  go_ret
  exact ⟨rfl, grow_alloc (grow_refl _ _) _⟩

def hxs : List UInt8 := [48, 49, 50, 51, 52, 53, 54, 55, 56, 57, 97, 98, 99, 100, 101, 102]
def hxd (n : Nat) : UInt8 := hxs.getD n 0
def hx (n : Nat) : List UInt8 := [hxd (n / 16), hxd (n % 16)]
def nibR (c : UInt8) : Nat := if c < 97 then c.toNat - 48 else c.toNat - 87
def valR (a b : UInt8) : Nat := nibR a * 16 + nibR b

/-- Is each pair of signs one of a byte? -/
def okR : List UInt8 → Bool
  | [] => true
  | a :: b :: l => decide (valR a b < 256) && decide (hx (valR a b) = [a, b]) && okR l
  | _ => false

def unhexR : List UInt8 → List UInt8
  | a :: b :: l => UInt8.ofNat (valR a b) :: unhexR l
  | _ => []

theorem hxd_inj : ∀ n, n < 16 → ∀ m, m < 16 → hxd n = hxd m → n = m := by decide
theorem hx_inj (n m : Nat) (hn : n < 256) (hm : m < 256) (h : hx n = hx m) : n = m := by
  unfold hx at h
  injection h with h1 h2
  injection h2 with h2
  have := hxd_inj (n / 16) (by omega) (m / 16) (by omega) h1
  have := hxd_inj (n % 16) (by omega) (m % 16) (by omega) h2
  omega

theorem cut_hxs : ∀ n, n < 16 → (((hxs.drop n).take (16 - n)).take 1) = [hxd n] := by decide

set_option maxHeartbeats 1000000 in
theorem code_hexR1 (w : World) (c : UInt8) : Calls Tryd.prog 22 #[S [c]] w fun e w' => e = .returned (S (hx c.toNat)) ∧ ∃ n, w' = w.drewN n := by
  have hc := u8_lt c
  obtain ⟨p, hp, hp16⟩ : ∃ p, p = c.toNat / 16 ∧ p < 16 := ⟨_, rfl, by omega⟩
  have c1 := cut_hxs p hp16
  have c2 := cut_hxs (c.toNat % 16) (by omega)
  unfold hxs at c1 c2
  have e1 : IntKind.u8.wrap ((c.toNat : Int) / 16) = (p : Int) := by rw [IntWalk.u8_in _ (by omega)]; omega
  have hA : ∀ h, (ByteArray.mk #[c])[0]'h = c := fun h => rfl
  have hxe : hx c.toNat = [hxd p, hxd (c.toNat % 16)] := by rw [hp]; rfl
  rw [hxe]
  clear hp hxe
  have r1 := rule_app
  have r2 := rule_ext
  unfold S
  go_enter Tryd.func22, Tryd.ntmps22
  go_wp2_with fail
  refine wp_loop_rounds 2 ?_
  rw [rounds_succ]
  go_wp2_with fail
  go_region
  go_wp2_with fail
  rw [rounds_succ]
  go_wp2_with fail
  go_ret
  exact ⟨rfl, 1, rfl⟩

/-- A text of signs, by pairs. -/
theorem okR_length : ∀ l : List UInt8, okR l = true → l.length % 2 = 0
  | [], _ => rfl
  | [_], h => by simp [okR] at h
  | _ :: _ :: l, h => by
    simp only [okR, Bool.and_eq_true] at h
    have := okR_length l h.2
    simp only [List.length_cons]
    omega

theorem okR_at : ∀ (l : List UInt8), okR l = true → ∀ k, (h : 2 * k + 1 < l.length) → valR (l[2 * k]'(by omega)) l[2 * k + 1] < 256 ∧ hx (valR (l[2 * k]'(by omega)) l[2 * k + 1]) = [l[2 * k]'(by omega), l[2 * k + 1]]
  | [], _, k, h => by simp at h
  | [_], h, _, _ => by simp [okR] at h
  | a :: b :: l, h, 0, _ => by
    simp only [okR, Bool.and_eq_true, decide_eq_true_eq] at h
    exact h.1
  | a :: b :: l, h, k + 1, hk => by
    simp only [okR, Bool.and_eq_true] at h
    exact okR_at l h.2 k (by simp only [List.length_cons] at hk; omega)

theorem take_twoR (l : List UInt8) (k : Nat) (h1 : 2 * k + 1 < l.length) : l.take (2 * (k + 1)) = l.take (2 * k) ++ [l[2 * k]'(by omega), l[2 * k + 1]] := by
  have e : l.take (2 * (k + 1)) = l.take (2 * k + 1 + 1) := rfl
  rw [e, List.take_succ_eq_append_getElem h1, List.take_succ_eq_append_getElem (by omega), List.append_assoc]
  rfl

theorem unhexR_snoc2 : ∀ l : List UInt8, l.length % 2 = 0 → ∀ a b, unhexR (l ++ [a, b]) = unhexR l ++ [UInt8.ofNat (valR a b)]
  | [], _, _, _ => rfl
  | [_], h, _, _ => by simp at h
  | x :: y :: r, h, a, b => by
    have := unhexR_snoc2 r (by simp only [List.length_cons] at h; omega) a b
    simp only [List.cons_append, unhexR, this]

theorem unhexR_step (l : List UInt8) (k : Nat) (h1 : 2 * k + 1 < l.length) : unhexR (l.take (2 * (k + 1))) = unhexR (l.take (2 * k)) ++ [UInt8.ofNat (valR (l[2 * k]'(by omega)) l[2 * k + 1])] := by
  rw [take_twoR l k h1, unhexR_snoc2 _ (by rw [List.length_take]; omega)]

theorem unhexR_length_le : ∀ l : List UInt8, (unhexR l).length ≤ l.length
  | [] => by simp [unhexR]
  | [_] => by simp [unhexR]
  | a :: b :: l => by
    have := unhexR_length_le l
    simp only [unhexR, List.length_cons]
    omega

/-- The byte, once the search has passed it. -/
def kV (V m : Nat) : Int := if V < m then (V : Int) else -1
theorem kV_zero (V : Nat) : kV V 0 = -1 := by simp [kV]
theorem kV_all (V : Nat) (h : V < 256) : kV V 256 = V := by simp [kV, h]
theorem kV_same (V : Nat) : kV V (V + 1) = V := by simp [kV]
theorem kV_other (V m : Nat) (h : V ≠ m) : kV V (m + 1) = kV V m := by
  unfold kV
  by_cases q : V < m
  · rw [if_pos q, if_pos (by omega)]
  · rw [if_neg q, if_neg (by omega)]

theorem okR_ati (l : List UInt8) (h : okR l = true) (i : Nat) (he : i % 2 = 0) (h1 : i + 1 < l.length) : ∃ V, V < 256 ∧ (l.drop i).take 2 = hx V ∧ unhexR (l.take (i + 2)) = unhexR (l.take i) ++ [UInt8.ofNat V] := by
  obtain ⟨k, rfl⟩ : ∃ k, i = 2 * k := ⟨i / 2, by omega⟩
  obtain ⟨h2, h3⟩ := okR_at l h k h1
  refine ⟨_, h2, ?_, unhexR_step l k h1⟩
  rw [h3, List.drop_eq_getElem_cons (by omega), List.drop_eq_getElem_cons (by omega)]
  rfl

def UnhexedR (l : List UInt8) (w : World) (e : Ending) (w' : World) : Prop := e = .returned (.tuple #[S (unhexR l), .int .i64 0]) ∧ w.grownBy w' none

set_option maxRecDepth 20000 in
set_option maxHeartbeats 1000000 in
theorem code_unhexR (w : World) (l : List UInt8) (hl : l.length ≤ 1000000) (hok : okR l = true) : Calls Tryd.prog 13 #[S l] w (UnhexedR l w) := by
  have hev := okR_length l hok
  have HO := Lib.hid hok
  have HE := Lib.hid hev
  have r1 := rule_app
  have r2 := rule_ext
  clear hok hev
  unfold S
  go_enter Tryd.func13, Tryd.ntmps13
  go_wp2_with fail
  go_loopw [4, 5] (fun vo vi wr => ∃ i : Nat, Hid (i % 2 = 0) ∧ i ≤ l.length ∧ vi = .int .i64 i ∧ vo = S (unhexR (l.take i)) ∧ w.grownBy wr none) (fun _ vi _ => l.length - (intOf vi).toNat)
  case atStart => exact ⟨0, rfl, by omega, rfl, rfl, grow_refl _ _⟩
  case round =>
    obtain ⟨i, hie, hi, rfl, rfl, hg⟩ := hrel
    by_cases hlt : i < l.length
    · have l1 : i + 1 < l.length := by have := hie.out; have := HE.out; omega
      obtain ⟨V, v256, hv, hs⟩ := okR_ati l HO.out i hie.out l1
      have HS := Lib.hid hs
      have hle := unhexR_length_le (l.take i)
      rw [List.length_take] at hle
      have HV := Lib.hid hv
      clear hs hv
      unfold S
      go_wp2_with fail
      go_loopw [6, 14] (fun vk vn wr2 => ∃ m : Nat, m ≤ 256 ∧ vn = .int .i64 m ∧ vk = .int .i64 (kV V m) ∧ w.grownBy wr2 none) (fun _ vn _ => 256 - (intOf vn).toNat)
      case atStart => exact ⟨0, by omega, rfl, by rw [kV_zero], hg⟩
      case round =>
        clear hg
        obtain ⟨m, hm, rfl, rfl, hg⟩ := hrel
        by_cases hlm : m < 256
        · have e1 : IntKind.i64.wrap ((i : Int) + 1) = (i : Int) + 1 := IntWalk.i64_in _ (by omega)
          have e2 : IntKind.i64.wrap ((i : Int) + 2) = (i : Int) + 2 := IntWalk.i64_in _ (by omega)
          have e3 : ((i : Int) + 2).toNat = i + 2 := by omega
          have q0 : decide ((i : Int) + 1 < (l.length : Int)) = true := by simp; omega
          have q1 : (i : Int) ≤ (i : Int) + 2 := by omega
          have q2 : (i : Int) + 2 ≤ (l.length : Int) := by omega
          have hcut : (l.drop i).take (i + 2 - i) = hx V := by rw [Nat.add_sub_cancel_left]; exact HV.out
          go_wp2_with fail
          go_region_held3 (fun _ => True) (first | trivial)
            (first
            | (go_at_call 23; refine (code_chr _ m hlm).mono ?_; rintro e w3 ⟨rfl, hg3⟩; unfold S)
            | (go_at_call 22; refine (code_hexR1 _ (UInt8.ofNat m)).mono ?_; rintro e w4 ⟨rfl, nd, rfl⟩; unfold S))
          all_goals
            clear e1 e2 e3 q0 q1 q2 hcut
            have hmm : m % 256 = m := by omega
            rw [hmm, HV.out]
            clear hmm
            by_cases hVm : V = m
            · subst hVm
              have ht : (hx V == hx V) = true := by simp
              rw [ht]
              clear ht
              have HK := Lib.hid (kV_same V)
              go_wp2_with fail
              go_roundw
              case rel => exact ⟨V + 1, by omega, by go_num, by rw [HK.out], grow_trans hg (grow_trans (grow_drew (grow_refl _ _)) (grow_drewN hg3 nd))⟩
              case measure => simp [intOf]; omega
            · have ht : (hx m == hx V) = false := by
                rw [beq_eq_false_iff_ne]
                intro e
                exact hVm (hx_inj m V hlm v256 e).symm
              have HK := Lib.hid (kV_other V m hVm)
              clear hVm
              rw [ht]
              clear ht
              go_wp2_with fail
              go_roundw
              case rel => exact ⟨m + 1, by omega, by go_num, by rw [HK.out], grow_trans hg (grow_trans (grow_drew (grow_refl _ _)) (grow_drewN hg3 nd))⟩
              case measure => simp [intOf]; omega
        · obtain rfl : m = 256 := by omega
          rw [kV_all V v256]
          have hcat : (unhexR (l.take i)).length + 1 ≤ 9223372036854775807 := by omega
          go_wp2_with fail
          refine (code_chr _ V v256).mono ?_
          rintro e w5 ⟨rfl, hg5⟩
          unfold S
          go_wp2_with fail
          go_roundw
          case rel => exact ⟨i + 2, by have := hie.out; show (i + 2) % 2 = 0; omega, by omega, by go_num, by rw [HS.out], grow_trans hg hg5⟩
          case measure => simp [intOf]; omega
    · obtain rfl : i = l.length := by omega
      rw [List.take_length]
      unfold S
      go_wp2_with fail
      go_ret2
      exact ⟨rfl, hg⟩

end Go.Proofs.YtmceahknglkhoaaDoor
