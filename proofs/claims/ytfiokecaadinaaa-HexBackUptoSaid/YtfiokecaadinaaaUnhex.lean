/- Unhex: its contract. -/
import Derived.Test.YtfiokecaadinaaaHex
import Derived.Test.YtfiokecaadinaaaIndexByte
import Derived.Test.YtfiokecaadinaaaBytesW
namespace Go.Proofs.Ytfiokecaadinaaa
open Go.RowKit
set_option linter.unusedVariables false

def hexI (c : UInt8) : Int := Lib.indexByte hexes c

/-- What two signs stand for. -/
def hexV (a b : UInt8) : UInt8 := UInt8.ofNat ((hexI a).toNat * 16 + (hexI b).toNat)

/-- Are all of them signs? -/
def hexOk (l : List UInt8) : Bool := l.all fun c => decide (0 ≤ hexI c)

def unhexL : List UInt8 → List UInt8
  | a :: b :: r => hexV a b :: unhexL r
  | _ => []

theorem hexI_bd (c : UInt8) : -1 ≤ hexI c ∧ hexI c < 16 := by
  have h : ((List.range 256).all fun n => decide (-1 ≤ hexI (UInt8.ofNat n)) && decide (hexI (UInt8.ofNat n) < 16)) = true := by decide +kernel
  have h1 := List.all_eq_true.1 h c.toNat (List.mem_range.2 (u8_lt c))
  rw [UInt8.ofNat_toNat] at h1
  simpa using h1

theorem unhexL_snoc2 : ∀ l : List UInt8, l.length % 2 = 0 → ∀ a b, unhexL (l ++ [a, b]) = unhexL l ++ [hexV a b]
  | [], _, _, _ => rfl
  | [_], h, _, _ => by simp at h
  | x :: y :: r, h, a, b => by
    have := unhexL_snoc2 r (by simp only [List.length_cons] at h; omega) a b
    simp only [List.cons_append, unhexL, this]

theorem take_two (l : List UInt8) (k : Nat) (h0 : 2 * k < l.length) (h1 : 2 * k + 1 < l.length) : l.take (2 * (k + 1)) = l.take (2 * k) ++ [l[2 * k], l[2 * k + 1]] := by
  have e : l.take (2 * (k + 1)) = l.take (2 * k + 1 + 1) := rfl
  rw [e, List.take_succ_eq_append_getElem h1, List.take_succ_eq_append_getElem h0, List.append_assoc]
  rfl

theorem unhexL_take (l : List UInt8) (k : Nat) (h0 : 2 * k < l.length) (h1 : 2 * k + 1 < l.length) : unhexL (l.take (2 * (k + 1))) = unhexL (l.take (2 * k)) ++ [hexV l[2 * k] l[2 * k + 1]] := by
  rw [take_two l k h0 h1, unhexL_snoc2 _ (by rw [List.length_take]; omega)]

theorem hexOk_take (l : List UInt8) (k : Nat) (h0 : 2 * k < l.length) (h1 : 2 * k + 1 < l.length) : hexOk (l.take (2 * (k + 1))) = (hexOk (l.take (2 * k)) && (decide (0 ≤ hexI l[2 * k]) && decide (0 ≤ hexI l[2 * k + 1]))) := by
  rw [take_two l k h0 h1]
  simp [hexOk, List.all_append]

theorem unhexL_length : ∀ (l : List UInt8), (unhexL l).length = l.length / 2
  | [] => rfl
  | [_] => by simp [unhexL]
  | _ :: _ :: r => by
    have := unhexL_length r
    simp only [unhexL, List.length_cons, this]
    omega

theorem hexOk_prefix (l : List UInt8) (k : Nat) (h : hexOk (l.take k) = false) : hexOk l = false := by
  have : hexOk l = (hexOk (l.take k) && hexOk (l.drop k)) := by
    unfold hexOk
    rw [← List.all_append, List.take_append_drop]
  rw [this, h]
  rfl

theorem index_hex (w : World) (n : Int) (c : UInt8) (x : Int) (hx : hexI c = x) (hn : n = c.toNat) :
    Calls Try.prog 25 #[.string ⟨#[48, 49, 50, 51, 52, 53, 54, 55, 56, 57, 97, 98, 99, 100, 101, 102]⟩, .int .u8 n] w fun e w' => e = .returned (.int .i64 x) ∧ w = w' := by
  subst hn hx
  have h := index_byte w ⟨#[48, 49, 50, 51, 52, 53, 54, 55, 56, 57, 97, 98, 99, 100, 101, 102]⟩ (c.toNat : Int)
  have e : (c.toNat : Int).toNat.toUInt8 = c := by rw [Int.toNat_natCast]; exact UInt8.ofNat_toNat
  rw [e] at h
  exact h

theorem or_nib (x y : Nat) (hx : x < 16) (hy : y < 16) : bits .or .i64 ((x : Int) * 16) (y : Int) = ((x * 16 + y : Nat) : Int) := by
  have h : ((List.range 16).all fun x => (List.range 16).all fun y => decide (bits .or .i64 ((x : Int) * 16) (y : Int) = ((x * 16 + y : Nat) : Int))) = true := by decide +kernel
  exact of_decide_eq_true (List.all_eq_true.1 (List.all_eq_true.1 h x (List.mem_range.2 hx)) y (List.mem_range.2 hy))

def noHex : Value := .tuple #[S [], .int .i64 3]

set_option maxHeartbeats 400000 in
theorem code_unhex_odd (w : World) (l : List UInt8) (hl : l.length ≤ 9223372036854775807) (ho : l.length % 2 = 1) :
    Calls Try.prog 13 #[S l] w fun e w' => e = .returned noHex ∧ w = w' := by
  unfold S
  have h2 : ((l.length : Int) % 2 == 1) = true := by rw [beq_iff_eq]; omega
  clear ho
  go_enter Try.func13, Try.ntmps13
  go_wp2
  go_ret2
  exact ⟨rfl, rfl⟩

set_option maxHeartbeats 1000000 in
theorem code_unhex (w : World) (l : List UInt8) (hl : l.length ≤ 140737488355328) (he : l.length % 2 = 0) :
    Calls Try.prog 13 #[S l] w fun e w' => e = .returned (if hexOk l = true then .tuple #[S (unhexL l), .int .i64 0] else noHex) ∧ w.grownBy w' none := by
  have HP : ∃ V, V = (if hexOk l = true then .tuple #[S (unhexL l), .int .i64 0] else noHex) := ⟨_, rfl⟩
  obtain ⟨V, hV⟩ := HP
  rw [← hV]
  have HV := Lib.hid hV
  clear hV
  unfold S
  have h2 : ((l.length : Int) % 2 == 1) = false := by rw [beq_eq_false_iff_ne]; omega
  obtain ⟨n, hn⟩ : ∃ n, l.length = 2 * n := ⟨l.length / 2, by omega⟩
  have HN := Lib.hid hn
  clear hn he
  go_enter Try.func13, Try.ntmps13
  go_wp2
  go_loopw [4, 5] (fun vb vi wr => ∃ k : Nat, k ≤ n ∧ vi = .int .i64 (2 * k : Nat) ∧ brow wr w.heap.size vb (unhexL (l.take (2 * k))) ∧ Hid (hexOk (l.take (2 * k)) = true) ∧ Below w.heap.size w wr) (fun _ vi _ => l.length - (intOf vi).toNat)
  case atStart => exact ⟨0, by omega, rfl, by simpa [unhexL] using brow_nil _ _, rfl, Below.refl _ _⟩
  case round =>
    obtain ⟨k, hk, rfl, hown, hok, HB⟩ := hrel
    by_cases hlt : k < n
    · have hn := HN.out
      have l0 : 2 * k < l.length := by omega
      have l1 : 2 * k + 1 < l.length := by omega
      clear hn
      have u0 := Lib.hid (unhexL_take l k l0 l1)
      have u1 := Lib.hid (hexOk_take l k l0 l1)
      have hD1 : (unhexL (l.take (2 * k))).length + 1 ≤ 140737488355328 := by rw [unhexL_length, List.length_take]; omega
      have hz := HB.size
      have k0 : 2 * k < (ByteArray.mk l.toArray).size := by simpa [ByteArray.size] using l0
      have k1 : 2 * k + 1 < (ByteArray.mk l.toArray).size := by simpa [ByteArray.size] using l1
      have c0 : ∀ h, (ByteArray.mk l.toArray)[(2 * (k : Int)).toNat]'h = l[2 * k]'l0 := by
        have e : (2 * (k : Int)).toNat = 2 * k := by omega
        intro h
        simp only [e]
        rfl
      have c1 : ∀ h, (ByteArray.mk l.toArray)[(2 * (k : Int) + 1).toNat]'h = l[2 * k + 1]'l1 := by
        have e : (2 * (k : Int) + 1).toNat = 2 * k + 1 := by omega
        intro h
        simp only [e]
        rfl
      generalize l[2 * k] = a at *
      generalize l[2 * k + 1] = b at *
      have w1 : IntKind.i64.wrap (2 * (k : Int) + 1) = 2 * (k : Int) + 1 := IntWalk.i64_in _ (by omega)
      have i1 : (0 : Int) ≤ 2 * (k : Int) + 1 := by omega
      have i2 : 2 * (k : Int) + 1 < (l.length : Int) := by omega
      have ba := hexI_bd a
      have bb := hexI_bd b
      have HV2 : Hid (hexV a b = UInt8.ofNat ((hexI a).toNat * 16 + (hexI b).toNat)) := rfl
      obtain ⟨x, hx⟩ : ∃ x, hexI a = x := ⟨_, rfl⟩
      obtain ⟨y, hy⟩ : ∃ y, hexI b = y := ⟨_, rfl⟩
      rw [hx, hy] at u1 HV2
      rw [hx] at ba
      rw [hy] at bb
      generalize hexV a b = c at *
      by_cases hxy : 0 ≤ x ∧ 0 ≤ y
      · obtain ⟨x, rfl⟩ : ∃ n : Nat, x = n := ⟨x.toNat, by omega⟩
        obtain ⟨y, rfl⟩ : ∃ n : Nat, y = n := ⟨y.toNat, by omega⟩
        clear hxy
        go_wp2
        go_region_held3 (fun _ => True) (first | trivial)
          (first
            | (go_at_call 25; refine (index_hex _ _ a _ hx rfl).mono ?_; rintro e x ⟨rfl, rfl⟩)
            | (go_at_call 25; refine (index_hex _ _ b _ hy rfl).mono ?_; rintro e x ⟨rfl, rfl⟩))
        all_goals
          clear hx hy c0 c1 w1
          have w2 : IntKind.i64.wrap (2 * (k : Int) + 2) = 2 * (k : Int) + 2 := IntWalk.i64_in _ (by omega)
          go_wp2_with (at_builtin; go_must (refine append_byteW rfl _ _ rfl w.heap.size _ _ rfl ((hown.alloc _).drew) c _ ?c1 wr.heap.size rfl (obj_new_drew wr _) hD1 ?c2 ?_))
          case c1 =>
            rw [or_nib x y (by omega) (by omega), HV2.out]
            exact bcell_of _
          case c2 => exact Nat.le_trans hz (by simp)
          intro v' w' hown' hg'
          rw [← u0.out] at hown'
          replace HB := own_below HB hown hz (grow_trans (grow_drew (World.grownBy_alloc wr _ _)) hg')
          clear hown hg' hz
          go_wp2
          go_roundw
          case rel =>
            refine ⟨k + 1, by omega, by go_num, hown', ?_, HB⟩
            have e := hok.out
            refine Lib.hid ?_
            rw [u1.out, e]
            simp
          case measure => simp [intOf]; omega
      · have hno : V = noHex := by
          rw [HV.out, hexOk_prefix l (2 * (k + 1))]
          · rfl
          · rw [u1.out]
            simp
            omega
        have hx2 : ¬ (0 ≤ x ∧ 0 ≤ y) := hxy
        by_cases hx0 : x < 0
        · clear hxy hx2
          go_wp2
          go_region_held3 (fun _ => True) (first | trivial)
            (first
              | (go_at_call 25; refine (index_hex _ _ a _ hx rfl).mono ?_; rintro e x ⟨rfl, rfl⟩)
              | (go_at_call 25; refine (index_hex _ _ b _ hy rfl).mono ?_; rintro e x ⟨rfl, rfl⟩))
          all_goals
            clear hx hy c0 c1 w1
            go_wp2
            go_ret2
            exact ⟨by rw [hno]; rfl, grow_drew (grow_of_below HB)⟩
        · have hy0 : y < 0 := by omega
          clear hxy hx2
          go_wp2
          go_region_held3 (fun _ => True) (first | trivial)
            (first
              | (go_at_call 25; refine (index_hex _ _ a _ hx rfl).mono ?_; rintro e x ⟨rfl, rfl⟩)
              | (go_at_call 25; refine (index_hex _ _ b _ hy rfl).mono ?_; rintro e x ⟨rfl, rfl⟩))
          all_goals
            clear hx hy c0 c1 w1
            go_wp2
            go_ret2
            exact ⟨by rw [hno]; rfl, grow_drew (grow_of_below HB)⟩
    · have hn := HN.out
      obtain rfl : k = n := by omega
      rw [← hn, List.take_length] at hown hok
      have hV : V = .tuple #[S (unhexL l), .int .i64 0] := by rw [HV.out, if_pos hok.out]
      have hcv := conv_brow hown
      go_wp2
      go_ret2
      exact ⟨by rw [hV]; rfl, grow_of_below HB⟩

end Go.Proofs.Ytfiokecaadinaaa
