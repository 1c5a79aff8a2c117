/-
  Several texts of this claim in one: Unhex, DeskBase, DeskText, DeskForm, DeskList, DeskSuite, DeskSplit, DeskIter, DeskLine1, DeskLine, DeskWhat, DeskRun.
-/
import Derived.Test.YtmomfbkpniblgaaGreatDoorDg07
import Derived.Test.YtmomfbkpniblgaaGreatDoorDgBytesW
import Derived.Test.YtmomfbkpniblgaaGreatDoorDg06
import Derived.Test.YtmomfbkpniblgaaGreatDoorDg01
import Derived.Test.YtmomfbkpniblgaaGreatDoorDg04
import Derived.Test.YtmomfbkpniblgaaGreatDoorShelf
import Derived.LoopIn
import Derived.Defers
import Derived.Recover
import Derived.RecoverIn
import Derived.RangeFuncLeaves
import Derived.RangeFuncBox
import Derived.OwnWalkIn
import Derived.Maps.AppendAt
import Derived.TacticsInMore
namespace Go.Proofs.YtmomfbkpniblgaaGreatDoor
open Go.RowKit
set_option linter.unusedVariables false

def hexI (c : UInt8) : Int := Lib.indexByte hexes c

/-- What two signs stand for. -/
def hexV (a b : UInt8) : UInt8 := UInt8.ofNat ((hexI a).toNat * 16 + (hexI b).toNat)

/-- Are all of them signs? -/
def hexOk (l : List UInt8) : Bool := l.all fun c => decide (0 ≤ hexI c)

def unhexL : List UInt8 → List UInt8
  | a :: b :: r => hexV a b :: unhexL r
  | _ => []

theorem hexI_bd (c : UInt8) : -1 ≤ hexI c ∧ hexI c < 16 := by
  have h : ((List.range 256).all fun n => decide (-1 ≤ hexI (UInt8.ofNat n)) && decide (hexI (UInt8.ofNat n) < 16)) = true := by decide +kernel
  have h1 := List.all_eq_true.1 h c.toNat (List.mem_range.2 (u8_lt c))
  rw [UInt8.ofNat_toNat] at h1
  simpa using h1

theorem unhexL_snoc2 : ∀ l : List UInt8, l.length % 2 = 0 → ∀ a b, unhexL (l ++ [a, b]) = unhexL l ++ [hexV a b]
  | [], _, _, _ => rfl
  | [_], h, _, _ => by simp at h
  | x :: y :: r, h, a, b => by
    have := unhexL_snoc2 r (by simp only [List.length_cons] at h; omega) a b
    simp only [List.cons_append, unhexL, this]

theorem take_two (l : List UInt8) (k : Nat) (h0 : 2 * k < l.length) (h1 : 2 * k + 1 < l.length) : l.take (2 * (k + 1)) = l.take (2 * k) ++ [l[2 * k], l[2 * k + 1]] := by
  have e : l.take (2 * (k + 1)) = l.take (2 * k + 1 + 1) := rfl
  rw [e, List.take_succ_eq_append_getElem h1, List.take_succ_eq_append_getElem h0, List.append_assoc]
  rfl

theorem unhexL_take (l : List UInt8) (k : Nat) (h0 : 2 * k < l.length) (h1 : 2 * k + 1 < l.length) : unhexL (l.take (2 * (k + 1))) = unhexL (l.take (2 * k)) ++ [hexV l[2 * k] l[2 * k + 1]] := by
  rw [take_two l k h0 h1, unhexL_snoc2 _ (by rw [List.length_take]; omega)]

theorem hexOk_take (l : List UInt8) (k : Nat) (h0 : 2 * k < l.length) (h1 : 2 * k + 1 < l.length) : hexOk (l.take (2 * (k + 1))) = (hexOk (l.take (2 * k)) && (decide (0 ≤ hexI l[2 * k]) && decide (0 ≤ hexI l[2 * k + 1]))) := by
  rw [take_two l k h0 h1]
  simp [hexOk, List.all_append]

theorem unhexL_length : ∀ (l : List UInt8), (unhexL l).length = l.length / 2
  | [] => rfl
  | [_] => by simp [unhexL]
  | _ :: _ :: r => by
    have := unhexL_length r
    simp only [unhexL, List.length_cons, this]
    omega

theorem hexOk_prefix (l : List UInt8) (k : Nat) (h : hexOk (l.take k) = false) : hexOk l = false := by
  have : hexOk l = (hexOk (l.take k) && hexOk (l.drop k)) := by
    unfold hexOk
    rw [← List.all_append, List.take_append_drop]
  rw [this, h]
  rfl

theorem index_hex (w : World) (n : Int) (c : UInt8) (x : Int) (hx : hexI c = x) (hn : n = c.toNat) :
    Calls Tryz.prog 84 #[.string ⟨#[48, 49, 50, 51, 52, 53, 54, 55, 56, 57, 97, 98, 99, 100, 101, 102]⟩, .int .u8 n] w fun e w' => e = .returned (.int .i64 x) ∧ w = w' := by
  subst hn hx
  have h := index_byte w ⟨#[48, 49, 50, 51, 52, 53, 54, 55, 56, 57, 97, 98, 99, 100, 101, 102]⟩ (c.toNat : Int)
  have e : (c.toNat : Int).toNat.toUInt8 = c := by rw [Int.toNat_natCast]; exact UInt8.ofNat_toNat
  rw [e] at h
  exact h

theorem or_nib (x y : Nat) (hx : x < 16) (hy : y < 16) : bits .or .i64 ((x : Int) * 16) (y : Int) = ((x * 16 + y : Nat) : Int) := by
  have h : ((List.range 16).all fun x => (List.range 16).all fun y => decide (bits .or .i64 ((x : Int) * 16) (y : Int) = ((x * 16 + y : Nat) : Int))) = true := by decide +kernel
  exact of_decide_eq_true (List.all_eq_true.1 (List.all_eq_true.1 h x (List.mem_range.2 hx)) y (List.mem_range.2 hy))

def noHex : Value := .tuple #[S [], .int .i64 3]

set_option maxHeartbeats 400000 in
theorem code_unhex_odd (w : World) (l : List UInt8) (hl : l.length ≤ 9223372036854775807) (ho : l.length % 2 = 1) :
    Calls Tryz.prog 132 #[S l] w fun e w' => e = .returned noHex ∧ w = w' := by
  unfold S
  have h2 : ((l.length : Int) % 2 == 1) = true := by rw [beq_iff_eq]; omega
  clear ho
  go_enter Tryz.func132, Tryz.ntmps132
  go_wp2
  go_ret2
  exact ⟨rfl, rfl⟩

set_option maxRecDepth 20000 in
set_option maxHeartbeats 1000000 in
theorem code_unhex (w : World) (l : List UInt8) (hl : l.length ≤ 140737488355328) (he : l.length % 2 = 0) :
    Calls Tryz.prog 132 #[S l] w fun e w' => e = .returned (if hexOk l = true then .tuple #[S (unhexL l), .int .i64 0] else noHex) ∧ w.grownBy w' none := by
  have HP : ∃ V, V = (if hexOk l = true then .tuple #[S (unhexL l), .int .i64 0] else noHex) := ⟨_, rfl⟩
  obtain ⟨V, hV⟩ := HP
  rw [← hV]
  have HV := Lib.hid hV
  clear hV
  unfold S
  have h2 : ((l.length : Int) % 2 == 1) = false := by rw [beq_eq_false_iff_ne]; omega
  obtain ⟨n, hn⟩ : ∃ n, l.length = 2 * n := ⟨l.length / 2, by omega⟩
  have HN := Lib.hid hn
  clear hn he
  go_enter Tryz.func132, Tryz.ntmps132
  go_wp2
  go_loopw [4, 5] (fun vb vi wr => ∃ k : Nat, k ≤ n ∧ vi = .int .i64 (2 * k : Nat) ∧ brow wr w.heap.size vb (unhexL (l.take (2 * k))) ∧ Hid (hexOk (l.take (2 * k)) = true) ∧ Below w.heap.size w wr) (fun _ vi _ => l.length - (intOf vi).toNat)
  case atStart => exact ⟨0, by omega, rfl, by simpa [unhexL] using brow_nil _ _, rfl, Below.refl _ _⟩
  case round =>
    obtain ⟨k, hk, rfl, hown, hok, HB⟩ := hrel
    by_cases hlt : k < n
    · have hn := HN.out
      have l0 : 2 * k < l.length := by omega
      have l1 : 2 * k + 1 < l.length := by omega
      clear hn
      have u0 := Lib.hid (unhexL_take l k l0 l1)
      have u1 := Lib.hid (hexOk_take l k l0 l1)
      have hD1 : (unhexL (l.take (2 * k))).length + 1 ≤ 140737488355328 := by rw [unhexL_length, List.length_take]; omega
      have hz := HB.size
      have k0 : 2 * k < (ByteArray.mk l.toArray).size := by simpa [ByteArray.size] using l0
      have k1 : 2 * k + 1 < (ByteArray.mk l.toArray).size := by simpa [ByteArray.size] using l1
      have c0 : ∀ h, (ByteArray.mk l.toArray)[(2 * (k : Int)).toNat]'h = l[2 * k]'l0 := by
        have e : (2 * (k : Int)).toNat = 2 * k := by omega
        intro h
        simp only [e]
        rfl
      have c1 : ∀ h, (ByteArray.mk l.toArray)[(2 * (k : Int) + 1).toNat]'h = l[2 * k + 1]'l1 := by
        have e : (2 * (k : Int) + 1).toNat = 2 * k + 1 := by omega
        intro h
        simp only [e]
        rfl
      generalize l[2 * k] = a at *
      generalize l[2 * k + 1] = b at *
      have w1 : IntKind.i64.wrap (2 * (k : Int) + 1) = 2 * (k : Int) + 1 := IntWalk.i64_in _ (by omega)
      have i1 : (0 : Int) ≤ 2 * (k : Int) + 1 := by omega
      have i2 : 2 * (k : Int) + 1 < (l.length : Int) := by omega
      have ba := hexI_bd a
      have bb := hexI_bd b
      have HV2 : Hid (hexV a b = UInt8.ofNat ((hexI a).toNat * 16 + (hexI b).toNat)) := rfl
      obtain ⟨x, hx⟩ : ∃ x, hexI a = x := ⟨_, rfl⟩
      obtain ⟨y, hy⟩ : ∃ y, hexI b = y := ⟨_, rfl⟩
      rw [hx, hy] at u1 HV2
      rw [hx] at ba
      rw [hy] at bb
      generalize hexV a b = c at *
      by_cases hxy : 0 ≤ x ∧ 0 ≤ y
      · obtain ⟨x, rfl⟩ : ∃ n : Nat, x = n := ⟨x.toNat, by omega⟩
        obtain ⟨y, rfl⟩ : ∃ n : Nat, y = n := ⟨y.toNat, by omega⟩
        clear hxy
        go_wp2
        go_region_held3 (fun _ => True) (first | trivial)
          (first
            | (go_at_call 84; refine (index_hex _ _ a _ hx rfl).mono ?_; rintro e x ⟨rfl, rfl⟩)
            | (go_at_call 84; refine (index_hex _ _ b _ hy rfl).mono ?_; rintro e x ⟨rfl, rfl⟩))
        all_goals
          clear hx hy c0 c1 w1
          have w2 : IntKind.i64.wrap (2 * (k : Int) + 2) = 2 * (k : Int) + 2 := IntWalk.i64_in _ (by omega)
          go_wp2_with (at_builtin; go_must (refine append_byteW rfl _ _ rfl w.heap.size _ _ rfl ((hown.alloc _).drew) c _ ?c1 wr.heap.size rfl (obj_new_drew wr _) hD1 ?c2 ?_))
          case c1 =>
            rw [or_nib x y (by omega) (by omega), HV2.out]
            exact bcell_of _
          case c2 => exact Nat.le_trans hz (by simp)
          intro v' w' hown' hg'
          rw [← u0.out] at hown'
          replace HB := own_below HB hown hz (grow_trans (grow_drew (World.grownBy_alloc wr _ _)) hg')
          clear hown hg' hz
          go_wp2
          go_roundw
          case rel =>
            refine ⟨k + 1, by omega, by go_num, hown', ?_, HB⟩
            have e := hok.out
            refine Lib.hid ?_
            rw [u1.out, e]
            simp
          case measure => simp [intOf]; omega
      · have hno : V = noHex := by
          rw [HV.out, hexOk_prefix l (2 * (k + 1))]
          · rfl
          · rw [u1.out]
            simp
            omega
        have hx2 : ¬ (0 ≤ x ∧ 0 ≤ y) := hxy
        by_cases hx0 : x < 0
        · clear hxy hx2
          go_wp2
          go_region_held3 (fun _ => True) (first | trivial)
            (first
              | (go_at_call 84; refine (index_hex _ _ a _ hx rfl).mono ?_; rintro e x ⟨rfl, rfl⟩)
              | (go_at_call 84; refine (index_hex _ _ b _ hy rfl).mono ?_; rintro e x ⟨rfl, rfl⟩))
          all_goals
            clear hx hy c0 c1 w1
            go_wp2
            go_ret2
            exact ⟨by rw [hno]; rfl, grow_drew (grow_of_below HB)⟩
        · have hy0 : y < 0 := by omega
          clear hxy hx2
          go_wp2
          go_region_held3 (fun _ => True) (first | trivial)
            (first
              | (go_at_call 84; refine (index_hex _ _ a _ hx rfl).mono ?_; rintro e x ⟨rfl, rfl⟩)
              | (go_at_call 84; refine (index_hex _ _ b _ hy rfl).mono ?_; rintro e x ⟨rfl, rfl⟩))
          all_goals
            clear hx hy c0 c1 w1
            go_wp2
            go_ret2
            exact ⟨by rw [hno]; rfl, grow_drew (grow_of_below HB)⟩
    · have hn := HN.out
      obtain rfl : k = n := by omega
      rw [← hn, List.take_length] at hown hok
      have hV : V = .tuple #[S (unhexL l), .int .i64 0] := by rw [HV.out, if_pos hok.out]
      have hcv := conv_brow hown
      go_wp2
      go_ret2
      exact ⟨by rw [hV]; rfl, grow_of_below HB⟩

end Go.Proofs.YtmomfbkpniblgaaGreatDoor

namespace Go.Proofs.YtmomfbkpniblgaaGreatDoor
open Go.RowKit
set_option linter.unusedVariables false

/-- What is thrown up to the line. -/
def badV (n : Nat) : Value := .iface 74 (.agg #[.int .i64 (n : Int)])
def Thrown (n : Nat) (w : World) (e : Ending) (w' : World) : Prop := e = .panicked [{ v := badV n, recovered := false }] ∧ w.grownBy w' none
/-- A text, the same in whatever world, or what is thrown. -/
def AnyT (k : FuncId) (args : Array Value) (B : Nat) : Prop := (∃ t : List UInt8, t.length ≤ B ∧ ∀ w : World, Calls Tryz.prog k args w (Grown (S t) w)) ∨ (∃ n : Nat, 1 ≤ n ∧ n ≤ 15 ∧ ∀ w : World, Calls Tryz.prog k args w (Thrown n w))

theorem code_dfails0 (w : World) : Calls Tryz.prog 34 #[.int .i64 0] w fun e w' => e = .returned (.tuple #[]) ∧ w = w' := by
  go_enter Tryz.func34, Tryz.ntmps34
  go_wp2_with fail
  go_end0
  exact ⟨rfl, rfl⟩
theorem code_dfailsN (w : World) (n : Nat) (hn : 1 ≤ n) : Calls Tryz.prog 34 #[.int .i64 (n : Int)] w (Thrown n w) := by
  have q : ((n : Int) != 0) = true := by rw [bne_iff_ne]; omega
  clear hn
  go_enter Tryz.func34, Tryz.ntmps34
  go_wp2_with fail
  exact ⟨rfl, rfl, grow_refl _ _⟩
theorem code_dfails3 (w : World) : Calls Tryz.prog 34 #[.int .i64 3] w (Thrown 3 w) := code_dfailsN w 3 (by omega)

theorem unhex_any (l : List UInt8) (hl : l.length ≤ 10000) : ∃ (s : List UInt8) (n : Nat), s.length ≤ l.length ∧ n ≤ 15 ∧ ∀ w : World, Calls Tryz.prog 132 #[S l] w (Grown (.tuple #[S s, .int .i64 (n : Int)]) w) := by
  by_cases ho : l.length % 2 = 1
  · exact ⟨[], 3, by simp, by omega, fun w => (code_unhex_odd w l (by omega) ho).mono fun e w' ⟨h1, h2⟩ => ⟨h1, h2 ▸ grow_refl _ _⟩⟩
  · by_cases hh : hexOk l = true
    · refine ⟨unhexL l, 0, ?_, by omega, fun w => ?_⟩
      · have : ∀ l : List UInt8, (unhexL l).length ≤ l.length := by
          intro l
          induction l using unhexL.induct with
          | case1 a b r ih => rw [unhexL, List.length_cons, List.length_cons, List.length_cons]; omega
          | case2 t h => unfold unhexL; split <;> simp_all
        exact this l
      · have := code_unhex w l (by omega) (by omega)
        rwa [if_pos hh] at this
    · refine ⟨[], 3, by simp, by omega, fun w => ?_⟩
      have := code_unhex w l (by omega) (by omega)
      rwa [if_neg hh] at this

theorem any_dread (s : List UInt8) (hs : s.length ≤ 10000) : AnyT 81 #[S s] s.length := by
  obtain ⟨t, n, ht, hn, A⟩ := unhex_any s hs
  by_cases hd : s = [45]
  · subst hd
    refine Or.inl ⟨[], by simp, fun w => ?_⟩
    clear A
    unfold S
    go_enter Tryz.func81, Tryz.ntmps81
    go_wp2_with fail
    go_ret
    exact ⟨rfl, grow_refl _ _⟩
  · have hq : (s == [45]) = false := by rw [beq_eq_false_iff_ne]; exact hd
    have r2 := rule_ext
    rcases Nat.eq_zero_or_pos n with h0 | h0
    · subst h0
      by_cases htn : t = []
      · subst htn
        refine Or.inr ⟨3, by omega, by omega, fun w => ?_⟩
        have B := fun W : World => code_dfails3 W
        have C := fun W : World => code_dfails0 W
        unfold S at *
        unfold Thrown at B ⊢
        clear hd ht hn
        go_enter Tryz.func81, Tryz.ntmps81
        go_wp2_with fail
        (with_reducible refine (A _).mono ?_)
        rintro e x ⟨rfl, hg⟩
        go_wp2_with fail
        (with_reducible refine (C _).mono ?_)
        rintro e x ⟨rfl, rfl⟩
        go_wp2_with fail
        (with_reducible refine (B _).mono ?_)
        rintro e x2 ⟨rfl, hg2⟩
        exact ⟨rfl, rfl, grow_trans hg hg2⟩
      · refine Or.inl ⟨t, ht, fun w => ?_⟩
        have B := fun W : World => code_dfails0 W
        have htq : (t == []) = false := by rw [beq_eq_false_iff_ne]; exact htn
        unfold S at *
        clear hd ht hn htn
        go_enter Tryz.func81, Tryz.ntmps81
        go_wp2_with fail
        (with_reducible refine (A _).mono ?_)
        rintro e x ⟨rfl, hg⟩
        go_wp2_with fail
        (with_reducible refine (B _).mono ?_)
        rintro e x ⟨rfl, rfl⟩
        go_wp2_with fail
        go_ret
        exact ⟨rfl, hg⟩
    · refine Or.inr ⟨n, h0, hn, fun w => ?_⟩
      have B := fun W : World => code_dfailsN W n h0
      unfold S at *
      unfold Thrown at B ⊢
      clear hd ht hn
      go_enter Tryz.func81, Tryz.ntmps81
      go_wp2_with fail
      (with_reducible refine (A _).mono ?_)
      rintro e x ⟨rfl, hg⟩
      go_wp2_with fail
      (with_reducible refine (B _).mono ?_)
      rintro e x2 ⟨rfl, hg2⟩
      exact ⟨rfl, rfl, grow_trans hg hg2⟩

end Go.Proofs.YtmomfbkpniblgaaGreatDoor

namespace Go.Proofs.YtmomfbkpniblgaaGreatDoor
open Go.RowKit
set_option linter.unusedVariables false

/-- What a text, or an error, is told as. -/
theorem any_dtold (s : List UInt8) (hs : s.length ≤ 100000) (n : Nat) (hn : n ≤ 15) : AnyT 48 #[S s, .int .i64 (n : Int)] 200000 := by
  rcases Nat.eq_zero_or_pos n with h0 | h0
  · subst h0
    by_cases hz : s = []
    · subst hz
      refine Or.inl ⟨[45], by simp, fun w => ?_⟩
      have A := fun W : World => code_dfails0 W
      unfold S at *
      go_enter Tryz.func48, Tryz.ntmps48
      go_wp2_with fail
      (with_reducible refine (A _).mono ?_)
      rintro e x ⟨rfl, rfl⟩
      go_wp2_with fail
      go_ret
      exact ⟨rfl, grow_refl _ _⟩
    · have hq : (s == []) = false := by rw [beq_eq_false_iff_ne]; exact hz
      refine Or.inl ⟨hexL s, by rw [hexL_length]; omega, fun w => ?_⟩
      have A := fun W : World => code_dfails0 W
      have B := fun W : World => code_hex W s (by omega)
      have r2 := rule_ext
      generalize hexL s = t at *
      unfold S at *
      clear hs hz hn
      go_enter Tryz.func48, Tryz.ntmps48
      go_wp2_with fail
      (with_reducible refine (A _).mono ?_)
      rintro e x ⟨rfl, rfl⟩
      go_wp2_with fail
      (with_reducible refine (B _).mono ?_)
      rintro e x ⟨rfl, hg⟩
      go_wp2_with fail
      go_ret
      exact ⟨rfl, hg⟩
  · refine Or.inr ⟨n, h0, hn, fun w => ?_⟩
    have A := fun W : World => code_dfailsN W n h0
    unfold Thrown at *
    unfold S at *
    clear hs hn
    go_enter Tryz.func48, Tryz.ntmps48
    go_wp2_with fail
    (with_reducible refine (A _).mono ?_)
    rintro e x ⟨rfl, hg⟩
    exact ⟨rfl, rfl, hg⟩

/-- What the call's own row is written into, no older block is. -/
theorem srow_grown {w x w' : World} {v : Value} {ls : List (List UInt8)} (h : srow x w.heap.size v ls) (h1 : w.grownBy x none) (h2 : x.grownBy w' v.ownBlock) : w.grownBy w' none := by
  rcases hown : v.ownBlock with _ | b
  · rw [hown] at h2
    exact grow_trans h1 h2
  · rw [hown] at h2
    exact grow_trans_new h1 h2 (srow_own h b hown).1

def TextsIs (ts : List (List UInt8)) (all : Bool) (n : Nat) (w : World) (e : Ending) (w' : World) : Prop :=
  if all = true then ∃ v, e = .returned v ∧ srow w' w.heap.size v ts ∧ w.grownBy w' none else Thrown n w e w'

set_option maxHeartbeats 1000000 in
theorem code_dtexts (w : World) (bk o : Nat) (ss ts : List (List UInt8)) (cap many n : Nat) (hat : ∀ i (h : i < ss.length), w.cell? ⟨bk, o + i, none⟩ = some (S ss[i])) (hlc : ss.length ≤ cap) (hcm : cap ≤ maxLen) (hlen : ss.length = many) (hn : ss.length ≤ 1000)
    (hts : ts.length ≤ ss.length) (hr : ∀ i (h : i < ts.length) (W : World), Calls Tryz.prog 81 #[S (ss[i]'(by omega))] W (Grown (S ts[i]) W)) (hx : ∀ (h : ts.length < ss.length) (W : World), Calls Tryz.prog 81 #[S ss[ts.length]] W (Thrown n W)) :
    Calls Tryz.prog 47 #[.slice (some ⟨bk, o, none⟩) ss.length cap, .int .i64 (many : Int)] w (TextsIs ts (decide (ts.length = ss.length)) n w) := by
  subst hlen
  have HAT := Lib.hid hat
  have HR := Lib.hid hr
  have HX := Lib.hid hx
  have q : ((ss.length : Int) != (ss.length : Int)) = false := by simp
  have HN := Lib.hid (srow_nil w w.heap.size)
  obtain ⟨K, hK⟩ : ∃ K, K = ss.length := ⟨_, rfl⟩
  obtain ⟨M, hM⟩ : ∃ M, M = ts.length := ⟨_, rfl⟩
  rw [← hK] at hlc hn hts q ⊢
  rw [← hM] at hts ⊢
  have HK := Lib.hid hK
  have HM := Lib.hid hM
  clear hat hr hx hK hM
  go_enter Tryz.func47, Tryz.ntmps47
  go_wp2_with fail
  go_loopw [5, 15] (fun v5 v15 wr => ∃ i : Nat, i ≤ M ∧ v15 = .int .i64 i ∧ Hid (srow wr w.heap.size v5 (ts.take i)) ∧ Hid (w.grownBy wr none)) (fun _ v15 _ => K - (intOf v15).toNat)
  case atStart => exact ⟨0, by omega, rfl, Lib.hid (by simpa using HN.out), Lib.hid (grow_refl _ _)⟩
  case round =>
    clear HN
    obtain ⟨i, hi, rfl, hr, hg⟩ := hrel
    have hgz := hg.out.size
    by_cases hlt : i < K
    · have hlt' : i < ss.length := by rw [← HK.out]; exact hlt
      obtain ⟨t, ht⟩ : ∃ t, t = ss[i] := ⟨_, rfl⟩
      have hc : wr.cell? ⟨bk, o + i, none⟩ = some (S t) := hg.out.cell (by rw [ht]; exact HAT.out i hlt') (by simp)
      have hd : decide ((i : Int) < (K : Int)) = true := by simp; omega
      have HT := Lib.hid ht
      clear ht
      by_cases hm : i < M
      · have hm' : i < ts.length := by rw [← HM.out]; exact hm
        obtain ⟨u, hu⟩ : ∃ u, u = ts[i] := ⟨_, rfl⟩
        have A : ∀ W : World, Calls Tryz.prog 81 #[S t] W (Grown (S u) W) := fun W => by rw [HT.out, hu]; exact HR.out i hm' W
        have HU := Lib.hid hu
        clear hu
        unfold S at A hc
        go_wp2_with fail
        (with_reducible refine (A _).mono ?_)
        rintro e x ⟨rfl, hg2⟩
        have hg3 := grow_trans hg.out hg2
        have hrx := hr.out.keptN hg2
        have hsx : w.heap.size ≤ x.heap.size := hg3.size
        have HG3 := Lib.hid hg3
        have HRX := Lib.hid hrx
        have HLO := Lib.hid (show (ts.take i).length = i from by rw [List.length_take]; omega)
        clear hr hg hg2 hg3 hrx A hgz
        go_wp2_with (at_builtin; go_must (refine append_str rfl _ _ rfl w.heap.size _ _ rfl HRX.out u _ rfl rfl (by rw [HLO.out]; omega) hsx ?_))
        intro v' w' hown' hg'
        have HO := Lib.hid hown'
        have HG' := Lib.hid (srow_grown HRX.out HG3.out hg')
        clear hown' hg' HRX HG3
        go_wp2_with fail
        go_roundw
        case rel =>
          refine ⟨i + 1, by omega, by go_num, Lib.hid ?_, Lib.hid HG'.out⟩
          have e := HO.out
          rw [HU.out, ← List.take_succ_eq_append_getElem hm'] at e
          exact e
        case measure => simp [intOf]; omega
      · have A : ∀ W : World, Calls Tryz.prog 81 #[S t] W (Thrown n W) := fun W => by
          have e : i = ts.length := by rw [← HM.out]; omega
          subst e
          rw [HT.out]
          exact HX.out hlt' W
        unfold Thrown at A
        unfold S at A hc
        go_wp2_with fail
        (with_reducible refine (A _).mono ?_)
        rintro e x ⟨rfl, hg2⟩
        have e1 : decide (M = K) = false := by rw [decide_eq_false_iff_not]; omega
        have e2 : TextsIs ts (decide (M = K)) n w (.panicked [{ v := badV n, recovered := false }]) x := by
          rw [e1]
          exact ⟨rfl, grow_trans hg.out hg2⟩
        exact (And.intro rfl e2 : _ ∧ TextsIs ts (decide (M = K)) n w (.panicked [{ v := badV n, recovered := false }]) x)
    · have hd : decide ((i : Int) < (K : Int)) = false := by simp; omega
      go_wp2_with fail
      refine bodyPost_ret (v := u5) (by simp [results, Tryz.results47, go_sem]) rfl ?_
      have e1 : decide (M = K) = true := by rw [decide_eq_true_iff]; omega
      rw [e1]
      refine ⟨_, rfl, ?_, hg.out⟩
      have e2 := hr.out
      rw [List.take_of_length_le (by rw [← HM.out]; omega)] at e2
      exact e2

end Go.Proofs.YtmomfbkpniblgaaGreatDoor

namespace Go.Proofs.YtmomfbkpniblgaaGreatDoor
open Go.RowKit
set_option linter.unusedVariables false

/-- A text or an error, the same in whatever world. -/
def AnyTE (k : FuncId) (args : Array Value) : Prop := ∃ (s : List UInt8) (n : Nat), s.length ≤ 100000 ∧ n ≤ 15 ∧ ∀ w : World, Calls Tryz.prog k args w (Grown (.tuple #[S s, .int .i64 (n : Int)]) w)
/-- A text, or what is thrown. -/
def TPost (r : Option (List UInt8)) (m : Nat) (w : World) (e : Ending) (w' : World) : Prop :=
  match r with
  | some t => Grown (S t) w e w'
  | none => Thrown m w e w'
theorem told_form (s : List UInt8) (hs : s.length ≤ 100000) (n : Nat) (hn : n ≤ 15) : ∃ (r : Option (List UInt8)) (m : Nat), 1 ≤ m ∧ m ≤ 15 ∧ (∀ t, r = some t → t.length ≤ 200000) ∧ ∀ w : World, Calls Tryz.prog 48 #[S s, .int .i64 (n : Int)] w (TPost r m w) := by
  rcases any_dtold s hs n hn with ⟨t, ht, h⟩ | ⟨m, h1, h2, h⟩
  · exact ⟨some t, 1, by omega, by omega, fun u e => by cases e; exact ht, h⟩
  · exact ⟨none, m, h1, h2, fun u e => (nomatch e), h⟩
/-- Words lie in a row. -/
def InRow (w : World) (bk o : Nat) (ss : List (List UInt8)) : Prop := ∀ i (h : i < ss.length), w.cell? ⟨bk, o + i, none⟩ = some (S ss[i])
def OverRow (k : FuncId) (mk : Value → Array Value) (ss : List (List UInt8)) (Q : World → Ending → World → Prop) : Prop :=
  ∀ (w : World) (bk o cap : Nat), InRow w bk o ss → ss.length ≤ cap → cap ≤ maxLen → Calls Tryz.prog k (mk (.slice (some ⟨bk, o, none⟩) ss.length cap)) w (Q w)
def RowIs (ts : List (List UInt8)) (w : World) (e : Ending) (w' : World) : Prop := ∃ v, e = .returned v ∧ srow w' w.heap.size v ts ∧ w.grownBy w' none
/-- A text or what is thrown, over a row of words. -/
def AnyL (k : FuncId) (mk : Value → Array Value) (ss : List (List UInt8)) : Prop := ∃ (r : Option (List UInt8)) (m : Nat), 1 ≤ m ∧ m ≤ 15 ∧ (∀ t, r = some t → t.length ≤ 200000) ∧ OverRow k mk ss (TPost r m)

end Go.Proofs.YtmomfbkpniblgaaGreatDoor

namespace Go.Proofs.YtmomfbkpniblgaaGreatDoor
open Go.RowKit
set_option linter.unusedVariables false

theorem lenD10 {vs : List Value} (h : vs.length = 10) : ∃ v0 v1 v2 v3 v4 v5 v6 v7 v8 v9, vs = [v0, v1, v2, v3, v4, v5, v6, v7, v8, v9] := by
  match vs, h with
  | [v0, v1, v2, v3, v4, v5, v6, v7, v8, v9], _ => exact ⟨v0, v1, v2, v3, v4, v5, v6, v7, v8, v9, rfl⟩

/-- All words are read, or one throws. -/
theorem reads_all : ∀ ss : List (List UInt8), (∀ s ∈ ss, s.length ≤ 2000) → ∃ (ts : List (List UInt8)) (n : Nat), ts.length ≤ ss.length ∧ 1 ≤ n ∧ n ≤ 15 ∧ (∀ t ∈ ts, t.length ≤ 2000) ∧
    (∀ i (h : i < ts.length) (h2 : i < ss.length) (W : World), Calls Tryz.prog 81 #[S ss[i]] W (Grown (S ts[i]) W)) ∧ (∀ (h : ts.length < ss.length) (W : World), Calls Tryz.prog 81 #[S ss[ts.length]] W (Thrown n W))
  | [], _ => ⟨[], 1, by simp, by omega, by omega, by simp, fun i h => absurd h (by simp), fun h => absurd h (by simp)⟩
  | s :: r, hb => by
    rcases any_dread s (Nat.le_trans (hb s (by simp)) (by omega)) with ⟨t, ht, A⟩ | ⟨n, h1, h2, A⟩
    · obtain ⟨ts, n, g1, g2, g3, g4, g5, g6⟩ := reads_all r (fun x hx => hb x (by simp [hx]))
      refine ⟨t :: ts, n, by simp; omega, g2, g3, ?_, ?_, ?_⟩
      · intro x hx
        rcases List.mem_cons.1 hx with rfl | hx
        · exact Nat.le_trans ht (hb s (by simp))
        · exact g4 x hx
      · intro i h h3 W
        cases i with
        | zero => exact A W
        | succ i => exact g5 i (by simpa using h) (by simpa using h3) W
      · intro h W
        exact g6 (by simpa using h) W
    · exact ⟨[], n, by simp, h1, h2, by simp, fun i h => absurd h (by simp), fun h W => A W⟩

theorem code_dtexts_bad (w : World) (a : Option Addr) (len cap many : Nat) (h : len ≠ many) : Calls Tryz.prog 47 #[.slice a len cap, .int .i64 (many : Int)] w (Thrown 3 w) := by
  have q : ((len : Int) != (many : Int)) = true := by rw [bne_iff_ne]; omega
  have B := fun W : World => code_dfails3 W
  unfold Thrown at *
  clear h
  go_enter Tryz.func47, Tryz.ntmps47
  go_wp2_with fail
  (with_reducible refine (B _).mono ?_)
  rintro e x ⟨rfl, hg⟩
  exact ⟨rfl, rfl, hg⟩

theorem any_texts (ss : List (List UInt8)) (many : Nat) (hm : 1 ≤ many) (hb : ∀ s ∈ ss, s.length ≤ 2000) (hn : ss.length ≤ 1000) :
    (∃ ts : List (List UInt8), ts.length = many ∧ (∀ t ∈ ts, t.length ≤ 2000) ∧ ss.length = many ∧ OverRow 47 (fun v => #[v, .int .i64 (many : Int)]) ss (RowIs ts)) ∨
    (∃ n, 1 ≤ n ∧ n ≤ 15 ∧ OverRow 47 (fun v => #[v, .int .i64 (many : Int)]) ss (Thrown n)) := by
  by_cases hl : ss.length = many
  · obtain ⟨ts, n, g1, g2, g3, g4, g5, g6⟩ := reads_all ss hb
    have C := fun w bk o cap (hr : InRow w bk o ss) (h1 : ss.length ≤ cap) (h2 : cap ≤ maxLen) => code_dtexts w bk o ss ts cap many n hr h1 h2 hl hn g1 (fun i h W => g5 i h (by omega) W) g6
    by_cases he : ts.length = ss.length
    · refine Or.inl ⟨ts, by omega, g4, hl, fun w bk o cap hr h1 h2 => (C w bk o cap hr h1 h2).mono fun e w' h => ?_⟩
      rw [decide_eq_true he] at h
      exact h
    · refine Or.inr ⟨n, g2, g3, fun w bk o cap hr h1 h2 => (C w bk o cap hr h1 h2).mono fun e w' h => ?_⟩
      rw [decide_eq_false he] at h
      exact h
  · exact Or.inr ⟨3, by omega, by omega, fun w bk o cap hr h1 h2 => code_dtexts_bad w _ _ _ _ hl⟩

set_option maxHeartbeats 1000000 in
theorem any_two (f : FuncId) (ss : List (List UInt8)) (hb : ∀ s ∈ ss, s.length ≤ 2000) (hn : ss.length ≤ 1000) (hk : ∀ (x y : Value) (W : World), (callFunc f #[x, y]).run Tryz.prog W = .ok (.enter f #[x, y]) W) (hf : ∀ a b : List UInt8, a.length ≤ 2000 → b.length ≤ 2000 → AnyTE f #[S a, S b]) :
    AnyL 50 (fun v => #[v, .func (.func f) #[] #[]]) ss := by
  rcases any_texts ss 2 (by omega) hb hn with ⟨ts, hl, hbt, -, C⟩ | ⟨n, h1, h2, C⟩
  · obtain ⟨a, b, rfl⟩ : ∃ a b, ts = [a, b] := by
      match ts, hl with
      | [a, b], _ => exact ⟨a, b, rfl⟩
    obtain ⟨s, n, hs, hn15, A⟩ := hf a b (hbt a (by simp)) (hbt b (by simp))
    obtain ⟨r, m, m1, m2, hr, D⟩ := told_form s hs n hn15
    refine ⟨r, m, m1, m2, hr, fun w bk o cap hrow hc1 hc2 => ?_⟩
    have A1 : Calls Tryz.prog 47 #[.slice (some ⟨bk, o, none⟩) ss.length cap, .int .i64 2] w (RowIs [a, b] w) := C w bk o cap hrow hc1 hc2
    generalize ss.length = K at *
    unfold RowIs at A1
    clear hf hb hbt C hrow hl hs hn15 hr
    unfold S at A D
    go_enter Tryz.func50, Tryz.ntmps50
    go_wp2_with fail
    (with_reducible refine A1.mono ?_)
    rintro e x0 ⟨v, rfl, hrx, hg0⟩
    obtain ⟨g, cp, rfl, _, _, hcp, hcm, hcell⟩ := srow_cells hrx (by simp)
    have c0 : x0.cell? ⟨g, 0, none⟩ = some (.string ⟨a.toArray⟩) := hcell 0 (by simp)
    have c1 : x0.cell? ⟨g, 1, none⟩ = some (.string ⟨b.toArray⟩) := hcell 1 (by simp)
    clear hcell hrx A1
    go_wp2_with fail
    refine wp_drawn_tail (by kernel_rfl) ?_
    refine drawn_tail 10 [8, 9, 10, 11, 12, 13, 14, 15, 16, 17] [(PEq (.func (.func f) #[] #[])), (PEq (.slice (some ⟨g, 0, none⟩) 2 cp)), (PEq (.pointer (some ⟨g, 0, none⟩))), (PEq (.string ⟨a.toArray⟩)), (PEq (.slice (some ⟨g, 0, none⟩) 2 cp)), (PEq (.pointer (some ⟨g, 1, none⟩))), (PEq (.string ⟨b.toArray⟩)), (PEq (.tuple #[.string ⟨s.toArray⟩, .int .i64 (n : Int)])), (PEq (.string ⟨s.toArray⟩)), (PEq (.int .i64 (n : Int)))] (by kernel_rfl) (by kernel_rfl) (by kernel_rfl) (by kernel_rfl) (by decide) (by decide) (by rfl) ?_ ?_ ?_
    · exact ⟨mono_eq _, mono_eq _, mono_eq _, mono_eq _, mono_eq _, mono_eq _, mono_eq _, mono_eq _, mono_eq _, mono_eq _, True.intro⟩
    · intro vs x hl hg
      obtain ⟨v0, v1, v2, v3, v4, v5, v6, v7, v8, v9, rfl⟩ := lenD10 hl
      simp only [layAll, Act.put, List.setIfInBounds_toArray, List.set_cons_succ, List.set_cons_zero]
      have q0 := hg.cell c0 (by simp)
      have q1 := hg.cell c1 (by simp)
      clear c0 c1 hg0
      refine stepsL_cons (fun K hw hr hK => ?_) <| stepsL_cons (fun K hw hr hK => ?_) <| stepsL_cons (fun K hw hr hK => ?_) <| stepsL_cons (fun K hw hr hK => ?_) <| stepsL_cons (fun K hw hr hK => ?_) <| stepsL_cons (fun K hw hr hK => ?_) <| stepsL_cons (fun K hw hr hK => ?_) <| stepsL_cons (fun K hw hr hK => ?_) <| stepsL_cons (fun K hw hr hK => ?_) <| stepsL_cons (fun K hw hr hK => ?_) <| stepsL_nil
      · -- 0: move
        unfold Oper.wp
        go_simp
        exact hK _ _ rfl (grow_refl _ _)
      · -- 1: move
        unfold Oper.wp
        go_simp
        exact hK _ _ rfl (grow_refl _ _)
      · -- 2: indexAddr
        have f1 : v1 = _ := hw 1 (by kernel_rfl)
        subst f1
        unfold Oper.wp
        go_simp
        exact hK _ _ rfl (grow_refl _ _)
      · -- 3: load
        have f2 : v2 = _ := hw 2 (by kernel_rfl)
        subst f2
        unfold Oper.wp
        go_simp
        exact hK _ _ rfl (grow_refl _ _)
      · -- 4: move
        unfold Oper.wp
        go_simp
        exact hK _ _ rfl (grow_refl _ _)
      · -- 5: indexAddr
        have f4 : v4 = _ := hw 4 (by kernel_rfl)
        subst f4
        unfold Oper.wp
        go_simp
        exact hK _ _ rfl (grow_refl _ _)
      · -- 6: load
        have f5 : v5 = _ := hw 5 (by kernel_rfl)
        subst f5
        unfold Oper.wp
        go_simp
        exact hK _ _ rfl (grow_refl _ _)
      · -- 7: call
        have f0 : v0 = _ := hw 0 (by kernel_rfl)
        subst f0
        have f3 : v3 = _ := hw 3 (by kernel_rfl)
        subst f3
        have f6 : v6 = _ := hw 6 (by kernel_rfl)
        subst f6
        unfold Oper.wp
        go_simp
        (with_reducible refine (A _).mono ?_)
        rintro e y ⟨rfl, hg2⟩
        exact hK _ _ rfl hg2
      · -- 8: extract
        have f7 : v7 = _ := hw 7 (by kernel_rfl)
        subst f7
        unfold Oper.wp
        go_simp
        exact hK _ _ rfl (grow_refl _ _)
      · -- 9: extract
        have f7 : v7 = _ := hw 7 (by kernel_rfl)
        subst f7
        unfold Oper.wp
        go_simp
        exact hK _ _ rfl (grow_refl _ _)
    · intro vs x hl hg hp
      obtain ⟨v0, v1, v2, v3, v4, v5, v6, v7, v8, v9, rfl⟩ := lenD10 hl
      have f0 : v0 = _ := hp 0 _ rfl
      have f1 : v1 = _ := hp 1 _ rfl
      have f2 : v2 = _ := hp 2 _ rfl
      have f3 : v3 = _ := hp 3 _ rfl
      have f4 : v4 = _ := hp 4 _ rfl
      have f5 : v5 = _ := hp 5 _ rfl
      have f6 : v6 = _ := hp 6 _ rfl
      have f7 : v7 = _ := hp 7 _ rfl
      have f8 : v8 = _ := hp 8 _ rfl
      have f9 : v9 = _ := hp 9 _ rfl
      subst f0
      subst f1
      subst f2
      subst f3
      subst f4
      subst f5
      subst f6
      subst f7
      subst f8
      subst f9
      simp only [layAll, Act.put, List.setIfInBounds_toArray, List.set_cons_succ, List.set_cons_zero]
      simp only [List.drop_succ_cons, List.drop_zero]
      clear hp hl
      have hgx := grow_trans hg0 hg
      clear hg hg0 A c0 c1
      go_wp2_with fail
      (with_reducible refine (D _).mono ?_)
      intro e y hy
      cases r with
      | some t =>
        obtain ⟨rfl, hg2⟩ := hy
        unfold S
        go_wp2_with fail
        go_ret
        exact ⟨rfl, grow_trans hgx hg2⟩
      | none =>
        obtain ⟨rfl, hg2⟩ := hy
        exact ⟨rfl, rfl, grow_trans hgx hg2⟩
  · refine ⟨none, n, h1, h2, fun t e => (nomatch e), fun w bk o cap hrow hc1 hc2 => ?_⟩
    have A1 : Calls Tryz.prog 47 #[.slice (some ⟨bk, o, none⟩) ss.length cap, .int .i64 2] w (Thrown n w) := C w bk o cap hrow hc1 hc2
    unfold TPost Thrown at *
    clear hf hb C hrow
    go_enter Tryz.func50, Tryz.ntmps50
    go_wp2_with fail
    (with_reducible refine A1.mono ?_)
    rintro e x0 ⟨rfl, hg0⟩
    exact ⟨rfl, rfl, hg0⟩

end Go.Proofs.YtmomfbkpniblgaaGreatDoor

namespace Go.Proofs.YtmomfbkpniblgaaGreatDoor
open Go.RowKit
set_option linter.unusedVariables false

def SPost (r : Option Nat) (w : World) (e : Ending) (w' : World) : Prop :=
  match r with
  | some n => e = .returned (.int .i64 (n : Int)) ∧ w = w'
  | none => Thrown 3 w e w'

theorem any_dsuite (ss : List (List UInt8)) : ∃ r : Option Nat, (∀ n, r = some n → (n = 1 ∨ n = 2) ∧ 0 < ss.length) ∧ OverRow 100 (fun v => #[v]) ss (SPost r) := by
  rcases ss with _ | ⟨h, rest⟩
  · refine ⟨none, fun n e => (nomatch e), fun w bk o cap hr h1 h2 => ?_⟩
    have B := fun W : World => code_dfails3 W
    unfold SPost Thrown at *
    simp only [List.length_nil]
    clear hr
    go_enter Tryz.func100, Tryz.ntmps100
    go_wp2_with fail
    (with_reducible refine (B _).mono ?_)
    rintro e x ⟨rfl, hg⟩
    exact ⟨rfl, rfl, hg⟩
  · have key : ∀ (w : World) (bk o : Nat), InRow w bk o (h :: rest) → w.cell? ⟨bk, o, none⟩ = some (.string ⟨h.toArray⟩) := fun w bk o hr => hr 0 (by simp)
    have key2 : ∀ K : Nat, 0 < K → ((K : Int) == 0) = false := fun K h => by rw [beq_eq_false_iff_ne]; omega
    by_cases e1 : h = [49]
    · subst e1
      refine ⟨some 1, fun n e => by cases e; exact ⟨Or.inl rfl, by simp⟩, fun w bk o cap hr h1 h2 => ?_⟩
      have c0 := key w bk o hr
      have hK : 0 < (([49] : List UInt8) :: rest).length := by simp
      clear key hr
      generalize (([49] : List UInt8) :: rest).length = K at *
      have q := key2 K hK
      have hK2 : (0 : Int) < (K : Int) := by omega
      unfold SPost
      go_enter Tryz.func100, Tryz.ntmps100
      go_wp2_with fail
      go_ret
      exact ⟨rfl, rfl⟩
    · have n1 : (h != [49]) = true := by rw [bne_iff_ne]; exact e1
      by_cases e2 : h = [50]
      · subst e2
        refine ⟨some 2, fun n e => by cases e; exact ⟨Or.inr rfl, by simp⟩, fun w bk o cap hr h1 h2 => ?_⟩
        have c0 := key w bk o hr
        have hK : 0 < (([50] : List UInt8) :: rest).length := by simp
        clear key hr
        generalize (([50] : List UInt8) :: rest).length = K at *
        have q := key2 K hK
        have hK2 : (0 : Int) < (K : Int) := by omega
        unfold SPost
        go_enter Tryz.func100, Tryz.ntmps100
        go_wp2_with fail
        go_ret
        exact ⟨rfl, rfl⟩
      · have n2 : (h != [50]) = true := by rw [bne_iff_ne]; exact e2
        refine ⟨none, fun n e => (nomatch e), fun w bk o cap hr h1 h2 => ?_⟩
        have c0 := key w bk o hr
        have hK : 0 < (h :: rest).length := by simp
        clear key hr
        generalize (h :: rest).length = K at *
        have q := key2 K hK
        have hK2 : (0 : Int) < (K : Int) := by omega
        have B := fun W : World => code_dfails3 W
        have r2 := rule_ext
        have n3 : (h == [49]) = false := by rw [beq_eq_false_iff_ne]; exact e1
        have n4 : (h == [50]) = false := by rw [beq_eq_false_iff_ne]; exact e2
        unfold SPost Thrown at *
        clear e1 e2
        go_enter Tryz.func100, Tryz.ntmps100
        go_wp2_with fail
        (with_reducible refine (B _).mono ?_)
        rintro e x ⟨rfl, hg⟩
        exact ⟨rfl, rfl, hg⟩

end Go.Proofs.YtmomfbkpniblgaaGreatDoor

namespace Go.Proofs.YtmomfbkpniblgaaGreatDoor
open Go.RowKit
set_option linter.unusedVariables false

/-- The iterator's own blocks: the text, the blank, what is saved of it. -/
def SplitAt (s : List UInt8) (b : Nat) (w : World) : Prop := Blk w b 9 [S s] ∧ Blk w (b + 1) 9 [S [32]] ∧ Blk w (b + 2) 3 [.int .i64 0]
def splitF (b : Nat) : Value := .func (.func 78) #[] #[.pointer (some ⟨b + 1, 0, none⟩), .pointer (some ⟨b, 0, none⟩), .pointer (some ⟨b + 2, 0, none⟩)]

theorem code_splitseq (w : World) (s : List UInt8) : Calls Tryz.prog 33 #[S s, S [32]] w fun e w' => e = .returned (splitF w.heap.size) ∧ SplitAt s w.heap.size w' ∧ w.grownBy w' none := by
  have hmf : ∀ (fn : Fn) (first cap : Array Value) (w : World), (Instr.makeFunc fn first cap).run Tryz.prog w = .ok (.func fn first cap) w := fun _ _ _ _ => rfl
  unfold S
  go_enter Tryz.func33, Tryz.ntmps33
  go_wp2
  refine bodyPost_ret (v := splitF w.heap.size) (by simp [splitF, results, Tryz.results33, go_sem]) rfl ⟨rfl, ?_, ?_⟩
  · refine ⟨?_, ?_, ?_⟩
    · exact ((Blk.new w 9 [S s]).kept (World.grownBy_alloc _ _ none) (by simp)).kept (World.grownBy_alloc _ _ none) (by simp)
    · have h := (Blk.new (w.alloc (.cells #[S s] 9)) 9 [S [32]]).kept (World.grownBy_alloc _ (.cells #[.int .i64 0] 3) none) (by simp)
      rw [World.size_alloc] at h
      exact h
    · have h := Blk.new ((w.alloc (.cells #[S s] 9)).alloc (.cells #[S [32]] 9)) 3 [.int .i64 0]
      rw [World.size_alloc, World.size_alloc] at h
      exact h
  · exact grow_alloc (grow_alloc (grow_alloc (grow_refl w none) _) _) _

end Go.Proofs.YtmomfbkpniblgaaGreatDoor

namespace Go.Proofs.YtmomfbkpniblgaaGreatDoor
open Go.RowKit
set_option linter.unusedVariables false

def PtS (b : Nat) (r : Nat) (o : Obj) : Prop := r = b ∧ o.isCells = true
def RS (b : Nat) (W : World) : Prop := Blk W (b + 1) 9 [S [32]] ∧ Blk W (b + 2) 3 [.int .i64 0]
def txtLen (v : Option Value) : Nat := match v with | some (.string s) => s.data.size | _ => 0

set_option maxHeartbeats 2000000 in
theorem code_spliteach (w : World) (s : List UInt8) (hs : s.length ≤ 2000) (b : Nat) (h : SplitAt s b w) :
    SeqAllB Tryz.prog 78 #[] #[.pointer (some ⟨b + 1, 0, none⟩), .pointer (some ⟨b, 0, none⟩), .pointer (some ⟨b + 2, 0, none⟩)] (fun x : List UInt8 => #[S x]) (splitL s) (PtS b) (fun pre W => RS b W ∧ w.heap.size ≤ W.heap.size) w := by
  intro l J W hW hJ hR hY h0
  have e0 : (#[] ++ #[Value.func (.yield l) #[] #[]] ++ #[.pointer (some ⟨b + 1, 0, none⟩), .pointer (some ⟨b, 0, none⟩), .pointer (some ⟨b + 2, 0, none⟩)] : Array Value) = #[.func (.yield l) #[] #[], .pointer (some ⟨b + 1, 0, none⟩), .pointer (some ⟨b, 0, none⟩), .pointer (some ⟨b + 2, 0, none⟩)] := rfl
  rw [e0]
  obtain ⟨⟨h1, h2⟩, _⟩ := hR [] W h0
  have hB : Blk W b 9 [S s] := by
    have := h.1
    unfold Blk at this ⊢
    exact (hW.block _ (Array.getElem?_eq_some_iff.1 this).1).trans this
  refine (callsIn_wide (n := 0)).1 (callsIn_of_wp Tryz.func78 rfl trivial ?_ rfl)
  simp only [Tryz.ntmps78, List.size_toArray, List.length_cons, List.length_nil, Nat.reduceAdd, Nat.reduceSub, Array.replicate_succ, Array.replicate_zero, List.push_toArray, List.append_toArray, List.nil_append, List.cons_append]
  have c0 : W.cell? ⟨b, 0, none⟩ = some (.string ⟨s.toArray⟩) := hB.cell 0
  have c1 : W.cell? ⟨b + 1, 0, none⟩ = some (.string ⟨#[32]⟩) := h1.cell 0
  have c2 : W.cell? ⟨b + 2, 0, none⟩ = some (.int .i64 0) := h2.cell 0
  gi_wp2_with fail
  gi_loopw [7] (fun v7 wr => ∃ (pre : List (List UInt8)) (rest : List UInt8), splitL s = pre ++ splitL rest ∧ rest.length ≤ s.length ∧ J pre wr ∧ Blk wr b 9 [S rest]) (fun _ w => txtLen (w.cell? ⟨b, 0, none⟩))
  case atStart => exact ⟨[], s, rfl, Nat.le_refl _, h0, hB⟩
  case round =>
    clear c0 c1 c2 hB h0 h1 h2
    obtain ⟨pre, rest, hL, hlr, hj, hb⟩ := hrel
    have HL := Lib.hid hL
    clear hL
    obtain ⟨⟨h1, h2⟩, _⟩ := hR pre wr hj
    have c0 : wr.cell? ⟨b, 0, none⟩ = some (.string ⟨rest.toArray⟩) := hb.cell 0
    have f0 := hb.frozen 0
    have c1 : wr.cell? ⟨b + 1, 0, none⟩ = some (.string ⟨#[32]⟩) := h1.cell 0
    have c2 : wr.cell? ⟨b + 2, 0, none⟩ = some (.int .i64 0) := h2.cell 0
    have A := fun W : World => Tryz.strings_Index_one ⟨rest.toArray⟩ 32 W
    have hge := Lib.indexByte_ge rest 32
    rcases Int.lt_or_le (Lib.indexByte rest 32) 0 with hk | hk
    · have e1 : Lib.indexByte rest 32 = -1 := by omega
      have es := splitL_none rest e1
      have A2 : ∀ W : World, Calls Tryz.prog 80 #[.string ⟨rest.toArray⟩, .string ⟨#[32]⟩] W fun e w' => e = .returned (.int .i64 (-1)) ∧ w' = W := fun W => by rw [← e1]; exact A W
      have HJ := Lib.hid (show splitL s = pre ++ [rest] from by rw [HL.out, es])
      obtain ⟨fn, tmps, assign, body, hy, hRd⟩ := hY pre rest [] wr (by rw [HL.out, es]) hj
      unfold S at hy
      clear A hk e1 es hge
      gi_wp2_with fail
      refine ⟨trivial, rfl, callsIn_wide.2 ((A2 _).mono ?_)⟩
      rintro e x ⟨rfl, rfl⟩
      gi_wp2_with (refine ⟨rfl, ?_⟩; refine hRd.mono ?_; clear hRd; rintro e W2 ⟨rfl, hJ2, hk2⟩)
      go_end0
      exact ⟨⟨_, rfl⟩, by rw [HJ.out]; exact hJ2⟩
    · obtain ⟨k, ek⟩ : ∃ k : Nat, Lib.indexByte rest 32 = (k : Int) := ⟨(Lib.indexByte rest 32).toNat, by omega⟩
      obtain ⟨hkl, es⟩ := splitL_some rest k ek
      have A2 : ∀ W : World, Calls Tryz.prog 80 #[.string ⟨rest.toArray⟩, .string ⟨#[32]⟩] W fun e w' => e = .returned (.int .i64 (k : Int)) ∧ w' = W := fun W => by rw [← ek]; exact A W
      have HJ := Lib.hid (show splitL s = (pre ++ [rest.take k]) ++ splitL (rest.drop (k + 1)) from by rw [HL.out, es, List.append_assoc]; rfl)
      obtain ⟨fn, tmps, assign, body, hy, hRd⟩ := hY pre (rest.take k) (splitL (rest.drop (k + 1))) wr (by rw [HL.out, es]) hj
      unfold S at hy
      have r2 := rule_ext
      clear A hk ek es hge
      gi_wp2_with fail
      refine ⟨trivial, rfl, callsIn_wide.2 ((A2 _).mono ?_)⟩
      rintro e x ⟨rfl, rfl⟩
      have HB := Lib.hid hb
      gi_wp2_with (refine ⟨rfl, ?_⟩; refine hRd.mono ?_; clear hRd; rintro e W2 ⟨rfl, hJ2, hk2⟩; have hb2 : Blk W2 b 9 [S rest] := hk2 _ _ HB.out ⟨rfl, rfl⟩; obtain ⟨⟨d1, d2⟩, _⟩ := hR _ W2 hJ2; have g0 : W2.cell? ⟨b, 0, none⟩ = some (.string ⟨rest.toArray⟩) := hb2.cell 0; have gf := hb2.frozen 0; have g1 : W2.cell? ⟨b + 1, 0, none⟩ = some (.string ⟨#[32]⟩) := d1.cell 0)
      rw [List.take_of_length_le (by rw [List.length_drop]; omega)]
      have hs9 : Blk (W2.setCell ⟨b, 0, none⟩ (S (rest.drop (k + 1)))) b 9 [S (rest.drop (k + 1))] := hb2.set 0 _
      have hJ9 := hJ _ W2 _ (some b) hJ2 (grow_setCell (grow_refl W2 (some b)) 0 (S (rest.drop (k + 1)))) (fun r e => by cases e; exact ⟨_, hb2, rfl, rfl⟩)
      go_roundw
      case rel => exact ⟨pre ++ [rest.take k], rest.drop (k + 1), HJ.out, by rw [List.length_drop]; omega, hJ9, hs9⟩
      case measure =>
        have e1 := hs9.cell 0
        have e2 := HB.out.cell 0
        unfold S at e1 e2
        rw [e1, e2]
        simp [txtLen]
        omega

end Go.Proofs.YtmomfbkpniblgaaGreatDoor

namespace Go.Proofs.YtmomfbkpniblgaaGreatDoor
open Go.RowKit
set_option linter.unusedVariables false

def errL (n : Nat) : List UInt8 := [101, 114, 114, 111, 114, 32] ++ Lib.decDigits n

def EndAs (R : World → Prop) (e : Exit) (a : Act) (w : World) : Prop := e = .normal ∧ a.defers = [] ∧ R w

/-- Nothing was thrown. -/
theorem line1_idle (n0 : Nat) (p : Addr) (w : World) : CallsDIn Fence.wide n0 Tryz.prog 31 #[.pointer (some p)] .returning w fun e u' w' => e = .returned (.tuple #[]) ∧ u' = .returning ∧ w' = w := by
  refine callsDIn_of_wpSIn Tryz.func31 rfl trivial fun c₀ cs hu => ?_
  apply wpSIn_seq
  apply wpSIn_region
  simp [wpOpsSIn, go_sem, recoverD, hu, Tryz.ntmps31, Exit.thenS]
  apply wpSIn_seq
  apply wpSIn_region
  simp [wpOpsSIn, go_sem, Exit.thenS]
  refine wpSIn_cond (t := false) (by simp [Act.eval, Array.replicate]) ?_
  simp only [Bool.false_eq_true, if_false]
  refine wpSIn_of_wpIn rfl (wpIn_wide.2 <| wp_mono (Q := EndAs fun w' => w' = w) ?_ ?_)
  · clear hu
    exact wp_skip ⟨rfl, rfl, rfl⟩
  · rintro e a w' ⟨rfl, hd, rfl⟩
    exact ⟨hd, .returning, by cases c₀; simp_all, .tuple #[], (by simp [results, Tryz.results31]), rfl, rfl, rfl⟩

set_option maxRecDepth 20000 in
theorem run_bad (v : Value) (W : World) : (Instr.typeAssert (.iface 74 v) 20 74 true).run Tryz.prog W = .ok (.tuple #[v, .bool true]) W := by
  first | rfl | kernel_rfl | simp [Instr.typeAssert, go_sem]

set_option maxRecDepth 20000 in
/-- A thrown error is told. -/
theorem line1_thrown (n0 : Nat) (b : Nat) (n : Nat) (hn : n ≤ 15) (w : World) (x : Value) (hB : Blk w b 9 [x]) : CallsDIn Fence.wide n0 Tryz.prog 31 #[.pointer (some ⟨b, 0, none⟩)] (.panicking [{ v := badV n, recovered := false }]) w fun e u' w' =>
    e = .returned (.tuple #[]) ∧ u' = .panicking [{ v := badV n, recovered := true }] ∧ Blk w' b 9 [S (errL n)] ∧ w.grownBy w' (some b) := by
  have A := fun W : World => Tryz.strconv_Itoa_small n (by omega) W
  refine callsDIn_of_wpSIn Tryz.func31 rfl trivial fun c₀ cs hu => ?_
  unfold badV at *
  apply wpSIn_seq
  apply wpSIn_region
  simp [wpOpsSIn, go_sem, recoverD, hu, Tryz.ntmps31, Exit.thenS]
  apply wpSIn_seq
  apply wpSIn_region
  simp [wpOpsSIn, go_sem, Exit.thenS]
  refine wpSIn_cond (t := true) (by simp [Act.eval, Array.replicate]) ?_
  simp only [if_true]
  refine wpSIn_of_wpIn rfl (wpIn_wide.2 <| wp_mono (Q := EndAs fun w' => Blk w' b 9 [S (errL n)] ∧ w.grownBy w' (some b)) ?_ ?_)
  · clear hu
    have hb := hB.lt
    have hB1 := hB.kept (World.grownBy_alloc w (.cells #[.int .i64 (n : Int)] 74) none) (by simp)
    have hta := run_bad
    have c0 := hB1.cell 0
    have f0 := hB1.frozen 0
    rw [show Array.replicate 18 undef = #[undef, undef, undef, undef, undef, undef, undef, undef, undef, undef, undef, undef, undef, undef, undef, undef, undef, undef] from rfl]
    simp only [List.setIfInBounds_toArray, List.set_cons_succ, List.set_cons_zero, List.append_toArray, List.cons_append, List.nil_append]
    have r1 := rule_app
    have hl : (Lib.decDigits n).length ≤ 2 := by
      have h : ∀ k : Fin 16, (Lib.decDigits k.val).length ≤ 2 := by decide +kernel
      exact h ⟨n, by omega⟩
    have HD := Lib.hid (show errL n = 101 :: 114 :: 114 :: 111 :: 114 :: 32 :: Lib.decDigits n from rfl)
    generalize Lib.decDigits n = ds at *
    have hl2 : ¬ 9223372036854775807 < 6 + ds.length := by omega
    go_wp2_with fail
    (with_reducible refine (A _).mono ?_)
    rintro e x2 ⟨rfl, rfl⟩
    clear A
    go_wp2_with fail
    refine ⟨rfl, rfl, ?_, grow_alloc (grow_setCell (grow_refl w (some b)) 0 _) _⟩
    rw [HD.out]
    exact (hB.set 0 _).kept (World.grownBy_alloc _ _ none) (by simp)
  · rintro e a w' ⟨rfl, hd, h1, h2⟩
    exact ⟨hd, .panicking [{ v := .iface 74 (.agg #[.int .i64 (n : Int)]), recovered := true }], by cases c₀; simp_all, .tuple #[], (by simp [results, Tryz.results31]), rfl, rfl, h1, h2⟩

end Go.Proofs.YtmomfbkpniblgaaGreatDoor

namespace Go.Proofs.YtmomfbkpniblgaaGreatDoor
open Go.RowKit
set_option linter.unusedVariables false
attribute [local go_sem] Oper.semAt_some

/-- What the rounds keep: the words that were found lie in a row of the line's own, in its box. -/
structure LineI (w : World) (n : Nat) (pre : List (List UInt8)) (W : World) : Prop where
  ws : ∃ v, Blk W (w.heap.size + 1) 22 [v] ∧ srow W (w.heap.size + 5) v (pre.filter fun p => p != [])
  an : Blk W w.heap.size 9 [S []]
  rs : RS (w.heap.size + 2) W
  g : w.grownBy W none
  s : n ≤ W.heap.size
theorem LineI.own (w : World) (n : Nat) (hn : w.heap.size ≤ n) : OwnTB (fun r o => (n ≤ r ∧ o.isCells = false) ∨ PtS (w.heap.size + 2) r o) (LineI w n) := by
  rintro pre A B row ⟨⟨v, hv, hrow⟩, ha, ⟨h1, h2⟩, hg, hs⟩ hgr hr
  have far : ∀ (k : Nat) (t : TypeId) (vs : List Value), Blk A k t vs → k ≠ w.heap.size + 2 → some k ≠ row := by
    rintro k t vs hk hne e
    obtain ⟨o, e1, e2⟩ := hr k e.symm
    unfold Blk at hk
    rw [hk] at e1
    cases e1
    rcases e2 with ⟨_, e2⟩ | ⟨e2, _⟩
    · cases e2
    · exact hne e2
  refine ⟨⟨v, hv.kept hgr (far _ _ _ hv (by omega)), hrow.kept hgr ?_⟩, ha.kept hgr (far _ _ _ ha (by omega)), ⟨h1.kept hgr (far _ _ _ h1 (by omega)), h2.kept hgr (far _ _ _ h2 (by omega))⟩, ?_, Nat.le_trans hs hgr.size⟩
  · rcases hrow.2 with ⟨e, _⟩ | ⟨g, cap, cur, e, hb, hc, _⟩
    · left; rw [e]; rfl
    · right
      rw [e]
      intro e3
      obtain ⟨o, e1, e2⟩ := hr g (by rw [← e3]; rfl)
      rw [hc] at e1
      cases e1
      rcases e2 with ⟨_, e2⟩ | ⟨e2, _⟩
      · cases e2
      · omega
  · rcases row with _ | k
    · exact grow_trans hg hgr
    · obtain ⟨o, e1, e2⟩ := hr k rfl
      exact grow_trans_new hg hgr (by rcases e2 with ⟨e2, _⟩ | ⟨e2, _⟩ <;> omega)

theorem lenD5 {vs : List Value} (h : vs.length = 5) : ∃ v0 v1 v2 v3 v4, vs = [v0, v1, v2, v3, v4] := by
  match vs, h with
  | [v0, v1, v2, v3, v4], _ => exact ⟨v0, v1, v2, v3, v4, rfl⟩

set_option maxRecDepth 20000 in
/-- The way out: a thrown error is told. -/
theorem leave_thrown (w W : World) (D N m : Nat) (tmps : Array Value) (x : Value) (hm : m ≤ 15) (hD : W.heap[D]? = some (.deferred (some []))) (hN : Blk W N 9 [x]) (hg : w.grownBy W none) (hNw : w.heap.size ≤ N) (hDw : w.heap.size ≤ D) (ht : tmps.getD 2 undef = .pointer (some ⟨N, 0, none⟩)) :
    LeavesInM Fence.wide 1 Tryz.prog Tryz.f23 tmps (Grown (S (errL m)) w) [{ target := .collected D, args := #[] }, { target := .fn (.func 31) #[.pointer (some ⟨N, 0, none⟩)], args := #[] }] (.panicking [{ v := badV m, recovered := false }]) W := by
  have hne : N ≠ D := fun e => by
    subst e
    unfold Blk at hN
    rw [hN] at hD
    cases hD
  refine ⟨nofun, Or.inl ⟨D, _, rfl, run_takeDeferred hD, nofun, Or.inr ⟨fun _ => Nat.le_refl 1, .func 31, #[.pointer (some ⟨N, 0, none⟩)], 31, #[.pointer (some ⟨N, 0, none⟩)], rfl, ?_, fun _ _ => trivial, ?_⟩⟩⟩
  · simp [invoke, go_sem]
  · have g1 := grownBy_putObj' W D (.deferred none)
    have hN1 := hN.kept g1 (fun e => hne (Option.some.inj e))
    refine (line1_thrown 0 N m hm _ x hN1).mono ?_
    rintro e u' w' ⟨rfl, rfl, hB, hg2⟩
    show LeavesIn Fence.wide 1 Tryz.prog Tryz.f23 tmps (Grown (S (errL m)) w) [] .returning w'
    have c := hB.cell 0
    unfold S at c ⊢
    rw [Array.getD_eq_getD_getElem?] at ht
    exact ⟨_, (by simp [results, Tryz.results23, go_sem, ht, c]), rfl, grow_trans_new (grow_trans_new hg g1 hDw) hg2 hNw⟩
set_option maxRecDepth 20000 in
/-- The way out: nothing was thrown. -/
theorem leave_idle (w W : World) (D N : Nat) (t : List UInt8) (tmps : Array Value) (hD : W.heap[D]? = some (.deferred (some []))) (hN : Blk W N 9 [S t]) (hg : w.grownBy W none) (hNw : w.heap.size ≤ N) (hDw : w.heap.size ≤ D) (ht : tmps.getD 2 undef = .pointer (some ⟨N, 0, none⟩)) :
    LeavesInM Fence.wide 1 Tryz.prog Tryz.f23 tmps (Grown (S t) w) [{ target := .collected D, args := #[] }, { target := .fn (.func 31) #[.pointer (some ⟨N, 0, none⟩)], args := #[] }] .returning W := by
  have hne : N ≠ D := fun e => by
    subst e
    unfold Blk at hN
    rw [hN] at hD
    cases hD
  refine ⟨nofun, Or.inl ⟨D, _, rfl, run_takeDeferred hD, nofun, Or.inr ⟨fun _ => Nat.le_refl 1, .func 31, #[.pointer (some ⟨N, 0, none⟩)], 31, #[.pointer (some ⟨N, 0, none⟩)], rfl, ?_, fun _ _ => trivial, ?_⟩⟩⟩
  · simp [invoke, go_sem]
  · have g1 := grownBy_putObj' W D (.deferred none)
    have hN1 := hN.kept g1 (fun e => hne (Option.some.inj e))
    refine (line1_idle 0 ⟨N, 0, none⟩ _).mono ?_
    rintro e u' w' ⟨rfl, rfl, rfl⟩
    show LeavesIn Fence.wide 1 Tryz.prog Tryz.f23 tmps (Grown (S t) w) [] .returning _
    have c := hN1.cell 0
    unfold S at c ⊢
    rw [Array.getD_eq_getD_getElem?] at ht
    exact ⟨_, (by simp [results, Tryz.results23, go_sem, ht, c]), rfl, grow_trans_new hg g1 hDw⟩

set_option maxRecDepth 100000 in
set_option maxHeartbeats 4000000 in
theorem line_at (s : List UInt8) (hs : s.length ≤ 300) (r : Option (List UInt8)) (m : Nat) (hm1 : 1 ≤ m) (hm2 : m ≤ 15) (hX1 : ((splitL s).filter fun p => p != []) = [] → r = none ∧ m = 3)
    (hX2 : ∀ h ss, ((splitL s).filter fun p => p != []) = h :: ss → OverRow 35 (fun v => #[S h, v]) ss (TPost r m)) (w : World) : Calls Tryz.prog 23 #[S s] w (Grown (S (r.getD (errL m))) w) := by
  obtain ⟨i0, hi, hz0, hz1, hz2⟩ := info_parts info_str
  have hwl : ((splitL s).filter fun p => p != []).length ≤ 1000 := Nat.le_trans (List.length_filter_le _ _) (by have := (splitL_le s).1; omega)
  have hwb : ∀ t ∈ (splitL s).filter fun p => p != [], t.length ≤ 2000 := fun t ht => by
    have := (splitL_le s).2 t (List.mem_filter.1 ht).1
    omega
  have A := fun W : World => code_splitseq W s
  have hmf : ∀ (fn : Fn) (first cap : Array Value) (w : World), (Instr.makeFunc fn first cap).run Tryz.prog w = .ok (.func fn first cap) w := fun _ _ _ _ => rfl
  refine (callsIn_wide (n := 1)).1 (callsIn_of_wp_marks Tryz.func23 rfl trivial ?_ rfl)
  simp only [Tryz.ntmps23, List.size_toArray, List.length_cons, List.length_nil, Nat.reduceAdd, Nat.reduceSub, Array.replicate_succ, Array.replicate_zero, List.push_toArray, List.append_toArray, List.nil_append, List.cons_append]
  refine wpIn_wide.2 ?_
  unfold S at A ⊢
  go_wp2_with fail
  (with_reducible refine (A _).mono ?_)
  rintro e x ⟨rfl, hsp, hg⟩
  clear A
  obtain ⟨w2, hw2⟩ : ∃ w2, w2 = (w.alloc (.cells #[.string ⟨#[]⟩] 9)).alloc (.cells #[.slice none 0 0] 22) := ⟨_, rfl⟩
  have a0 : Blk w2 w.heap.size 9 [S []] := by rw [hw2]; exact (Blk.new w 9 [S []]).kept (World.grownBy_alloc _ _ none) (by simp)
  have a1 : Blk w2 (w.heap.size + 1) 22 [.slice none 0 0] := by
    have h := Blk.new (w.alloc (.cells #[.string ⟨#[]⟩] 9)) 22 [.slice none 0 0]
    rw [World.size_alloc] at h
    rw [hw2]
    exact h
  have g2 : w.grownBy w2 none := by rw [hw2]; exact grow_alloc (World.grownBy_alloc w _ none) _
  have s2 : w2.heap.size = w.heap.size + 2 := by rw [hw2]; simp
  rw [← hw2] at hg
  simp only [World.size_alloc] at hsp
  rw [show w.heap.size + 1 + 1 = w.heap.size + 2 from rfl] at hsp
  have hb2 := Blk.lt hsp.2.2
  have HI : LineI w x.heap.size [] x := ⟨⟨_, a1.kept hg (by simp), World.ownsRow_nil _ _ _ _⟩, a0.kept hg (by simp), ⟨hsp.2.1, hsp.2.2⟩, grow_trans g2 hg, Nat.le_refl _⟩
  have hen : ∀ args w, (callFunc 78 args).run Tryz.prog w = .ok (.enter 78 args) w := enters_of Tryz.func78 (by kernel_rfl) rfl
  clear hw2 a0 a1 g2 hg
  go_wp2_with fail
  rename_i K0 hK0
  have HK0 := Lib.hid hK0
  clear hK0
  refine wp_rangeFunc_allB (gf := 78) (la := #[]) (lb := #[.pointer (some ⟨w.heap.size + 2 + 1, 0, none⟩), .pointer (some ⟨w.heap.size + 2, 0, none⟩), .pointer (some ⟨w.heap.size + 2 + 2, 0, none⟩)]) rfl hen (fun r o h => h.2) (code_spliteach x s (by omega) (w.heap.size + 2) hsp) (fun _ => rfl)
    (LineI w x.heap.size) (LineI.own w _ (by omega)) (fun pre W h => ⟨h.rs, h.s⟩) HI
    (fun t a _ => a = { tmps := #[.string ⟨s.toArray⟩, undef, .pointer (some ⟨w.heap.size, 0, none⟩), .pointer (some ⟨w.heap.size + 1, 0, none⟩), S t, .func (.func 31) #[] #[.pointer (some ⟨w.heap.size, 0, none⟩)], .string ⟨s.toArray⟩, splitF (w.heap.size + 2), S t, undef, undef, undef, undef, undef, undef, undef, undef, undef, undef, undef, undef, undef, undef, undef, undef], defers := [] })
    (fun _ _ _ _ _ _ h _ _ => h) ?assign ?body ?done
  case assign =>
    intro l pre t W K hi hK
    unfold S at hK ⊢
    gi_wp2_with fail
    exact hK _ _ (grow_refl _ _) rfl
  case body =>
    rintro l pre t rest a1 W hL rfl ⟨⟨v, hv, hrow⟩, ha, hr, hg, hs0⟩
    have hlen : pre.length ≤ 300 := by
      have h1 := (splitL_le s).1
      have := congrArg List.length hL
      simp at this
      omega
    have hfl : (pre.filter fun p => p != []).length ≤ 300 := Nat.le_trans (List.length_filter_le _ _) hlen
    by_cases ht : t = []
    · subst ht
      have he : ((pre ++ [[]]).filter fun p => p != []) = pre.filter fun p => p != [] := by simp
      unfold S
      gi_wp2_with fail
      exact ⟨KeepsFrom.refl _ _, KeepPtB.refl _ _, ⟨⟨v, hv, by rw [he]; exact hrow⟩, ha, hr, hg, hs0⟩⟩
    · have he : ((pre ++ [t]).filter fun p => p != []) = (pre.filter fun p => p != []) ++ [t] := by simp [ht]
      have hne : (t == []) = false := beq_eq_false_iff_ne.2 ht
      have hne2 : (t != []) = true := bne_iff_ne.2 ht
      have hfar : some (w.heap.size + 1) ≠ v.ownBlock := fun e => by
        have := (srow_own hrow _ e.symm).1
        omega
      have hc := hv.cell 0
      have hf := hv.frozen 0
      have hkb : w.heap.size + 5 ≤ W.heap.size := by omega
      have HS := Lib.hid he
      have HW := Lib.hid (⟨hrow, ha, hr, hg, hs0⟩ : _ ∧ _ ∧ _ ∧ _ ∧ _)
      have HV := Lib.hid hv
      clear he ha hr hg hs0 hL
      unfold srow at hrow
      generalize (pre.filter fun p => p != []) = ws at *
      unfold S
      gi_wp2_with (gi_at_builtin; refine wpListIn_append_own _ rfl _ _ 22 rfl (w.heap.size + 5) 9 i0 (.string ⟨#[]⟩) 1 16 Tryz.underlying22 hi hz0 hz1 hz2 rfl (by decide) _ _ _ rfl (hrow.alloc _) ⟨W.heap.size, 0, none⟩ 1 1 [S t] rfl rfl (cell_one_new _ _ _) (by simp [Value.oneCell', S]) (by unfold maxLen; omega) (by omega) (by simp; omega) ?_; intro v' w1 hown' hgrow _; obtain ⟨g', cap', rfl⟩ := ownsRow_succ hown'; have hgw := grow_trans (World.grownBy_alloc W (.cells #[S t] 9) v.ownBlock) hgrow; have hv1 := HV.out.kept hgw hfar; have hc1 := hv1.cell 0; have hf1 := hv1.frozen 0)
      obtain ⟨hrow2, ha2, hr2, hg2, hs2⟩ := HW.out
      have hown : ∀ g, v.ownBlock = some g → w.heap.size + 5 ≤ g ∧ ∃ cs f, W.heap[g]? = some (.cells cs 9 f) := by
        intro g hg
        rcases hrow2.2 with ⟨e, _⟩ | ⟨g2, cap, cur, e, hb, hc, _⟩
        · rw [e] at hg; cases hg
        · rw [e] at hg
          obtain rfl : g2 = g := by simpa [Value.ownBlock] using hg
          exact ⟨hb, _, _, hc⟩
      have hgs := grow_setCell (grow_refl w1 (some (w.heap.size + 1))) 0 (.slice (some ⟨g', 0, none⟩) (ws.length + 1) cap')
      have hk1 : ∀ k t vs, Blk W k t vs → k < w.heap.size + 5 → k ≠ w.heap.size + 1 → Blk (w1.setCell ⟨w.heap.size + 1, 0, none⟩ (.slice (some ⟨g', 0, none⟩) (ws.length + 1) cap')) k t vs := fun k t vs h h1 h2 =>
        (h.kept hgw (fun e => by have := (hown k e.symm).1; omega)).kept hgs (fun e => h2 (Option.some.inj e))
      refine ⟨⟨Nat.le_trans hgw.size hgs.size, fun k o _ hk ho => ?_⟩, ?_, ⟨⟨_, hv1.set 0 _, ?_⟩, hk1 _ _ _ ha2 (by omega) (by omega), ⟨hk1 _ _ _ hr2.1 ?_ ?_, hk1 _ _ _ hr2.2 ?_ ?_⟩, ?_, Nat.le_trans hs2 (Nat.le_trans hgw.size hgs.size)⟩⟩
      · have e1 : w1.heap[k]? = some o := (hgw.block k (lt_of_obj hk) (fun e => by
          obtain ⟨_, cs, f, h⟩ := hown k e.symm
          rw [hk] at h
          cases h
          cases ho)).trans hk
        exact (hgs.block k (lt_of_obj e1) (fun e => by
          obtain rfl := Option.some.inj e
          have h := HV.out
          unfold Blk at h
          rw [hk] at h
          cases h
          cases ho)).trans e1
      · refine KeepPtB.trans (KeepPtB.grown hgw (fun r o e h1 h2 => ?_)) (KeepPtB.grown hgs (fun r o e h1 h2 => ?_))
        · have q1 := (hown r e).1
          have q2 : r = w.heap.size + 2 := h2.1
          omega
        · have q1 := Option.some.inj e
          have q2 : r = w.heap.size + 2 := h2.1
          omega
      · rw [HS.out]
        unfold srow
        rw [List.length_append, List.map_append]
        exact World.ownsRow.kept hown' hgs (Or.inr fun e => by
          obtain rfl : g' = w.heap.size + 1 := by simpa [Value.ownBlock] using e
          have : w.heap.size + 5 ≤ w.heap.size + 1 := (hown'.lt _ rfl).1
          omega)
      · omega
      · omega
      · omega
      · omega
      · refine grow_trans_new ?_ hgs (by omega)
        rcases hk : v.ownBlock with _ | k
        · rw [hk] at hgw; exact grow_trans hg2 hgw
        · rw [hk] at hgw
          exact grow_trans_new hg2 hgw (by have := (hown k hk).1; omega)
  case done =>
    intro D W hD hI hK
    refine HK0.out _ _ ?_
    obtain ⟨⟨v, hv, hrow⟩, ha, hr, hg, hs0⟩ := hI
    clear HI hsp hr
    have c1 := hv.cell 0
    have c0 := ha.cell 0
    have f0 := ha.frozen 0
    cases hws : (splitL s).filter fun p => p != [] with
    | nil =>
      rw [hws] at hrow
      have hv0 : ∃ g cap, v = .slice g 0 cap := by
        rcases hrow.2 with ⟨e, _⟩ | ⟨g2, cap, cur, e, _⟩
        · exact ⟨_, _, e⟩
        · exact ⟨_, _, e⟩
      obtain ⟨g, cap, rfl⟩ := hv0
      have B := fun W : World => code_dfails3 W
      unfold Thrown at B
      dsimp only
      clear hrow
      go_wp2_with fail
      (with_reducible refine (B _).mono ?_)
      rintro e y ⟨rfl, hy⟩
      obtain ⟨rfl, rfl⟩ := hX1 hws
      have hN := ha.kept hy (by simp)
      exact leave_thrown w y D w.heap.size 3 _ _ (by omega) (grow_obj hy hK (by simp)) hN (grow_trans hg hy) (Nat.le_refl _) (by omega) rfl
    | cons h ss =>
      rw [hws] at hrow
      obtain ⟨g, cap, rfl, hgb, hgl, hc1', hc2', hcell⟩ := srow_cells hrow (by simp)
      have hO := hX2 h ss hws
      have hcW : ∀ x : World, W.grownBy x none → x.cell? ⟨g, 0, none⟩ = some (.string ⟨h.toArray⟩) := fun x hx => hx.cell (a := ⟨g, 0, none⟩) (hcell 0 (by simp)) (by simp)
      have hgW := hg
      have hvW := hv
      have haW := ha
      have hKW := hK
      rcases Nat.lt_or_ge 1 cap with hcap | hcap
      · have A1 : ∀ x : World, W.grownBy x none → Calls Tryz.prog 35 #[S h, .slice (some ⟨g, 1, none⟩) ss.length (cap - 1)] x (TPost r m x) := fun x hx => hO x g 1 (cap - 1) (fun i hi => by
          have := hx.cell (a := ⟨g, i + 1, none⟩) (hcell (i + 1) (by simpa using hi)) (by simp)
          rw [Nat.add_comm 1 i]
          simpa using this) (by rw [List.length_cons] at hc1'; omega) (by omega)
        have hcap2 : ¬ cap = 1 := by omega
        have hle1 : (1 : Int) ≤ (ss.length : Int) + 1 := by omega
        rw [List.length_cons] at *
        clear hcell hrow hO hX2 hX1
        unfold S at A1
        try dsimp only
        go_upto_region 9 with (fail)
        refine wp_drawn_tail (by kernel_rfl) ?_
        refine drawn_tail 5 [19, 20, 21, 22, 23] [(PEq (.slice (some ⟨g, 0, none⟩) (ss.length + 1) cap)), (PEq (.pointer (some ⟨g, 0, none⟩))), (PEq (.string ⟨h.toArray⟩)), (PEq (.slice (some ⟨g, 0, none⟩) (ss.length + 1) cap)), (PEq (.slice (some ⟨g, 1, none⟩) ss.length (cap - 1)))] (by kernel_rfl) (by kernel_rfl) (by kernel_rfl) (by kernel_rfl) (by decide) (by decide) (by rfl) ?_ ?_ ?_
        · exact ⟨mono_eq _, mono_eq _, mono_eq _, mono_eq _, mono_eq _, True.intro⟩
        · intro vs x hl hg
          obtain ⟨v0, v1, v2, v3, v4, rfl⟩ := lenD5 hl
          simp only [layAll, Act.put, List.setIfInBounds_toArray, List.set_cons_succ, List.set_cons_zero]
          have q1 := (hvW.kept hg (by simp)).cell 0
          have q2 := hcW x hg
          refine stepsL_cons (fun K hw hr hK => ?_) <| stepsL_cons (fun K hw hr hK => ?_) <| stepsL_cons (fun K hw hr hK => ?_) <| stepsL_cons (fun K hw hr hK => ?_) <| stepsL_cons (fun K hw hr hK => ?_) <| stepsL_nil
          · -- 0: load
            unfold Oper.wp
            go_simp
            exact hK _ _ rfl (grow_refl _ _)
          · -- 1: indexAddr
            have f0 : v0 = _ := hw 0 (by kernel_rfl)
            subst f0
            unfold Oper.wp
            go_simp
            exact hK _ _ rfl (grow_refl _ _)
          · -- 2: load
            have f1 : v1 = _ := hw 1 (by kernel_rfl)
            subst f1
            unfold Oper.wp
            go_simp
            exact hK _ _ rfl (grow_refl _ _)
          · -- 3: load
            unfold Oper.wp
            go_simp
            exact hK _ _ rfl (grow_refl _ _)
          · -- 4: slice
            have f3 : v3 = _ := hw 3 (by kernel_rfl)
            subst f3
            unfold Oper.wp
            go_simp
            exact hK _ _ rfl (grow_refl _ _)
        · intro vs x hl hg hp
          obtain ⟨v0, v1, v2, v3, v4, rfl⟩ := lenD5 hl
          have f0 : v0 = _ := hp 0 _ rfl
          have f1 : v1 = _ := hp 1 _ rfl
          have f2 : v2 = _ := hp 2 _ rfl
          have f3 : v3 = _ := hp 3 _ rfl
          have f4 : v4 = _ := hp 4 _ rfl
          subst f0
          subst f1
          subst f2
          subst f3
          subst f4
          simp only [layAll, Act.put, List.setIfInBounds_toArray, List.set_cons_succ, List.set_cons_zero]
          simp only [List.drop_succ_cons, List.drop_zero]
          clear hp hl
          have hvx := hvW.kept hg (by simp)
          have hax := haW.kept hg (by simp)
          have hgx := grow_trans hgW hg
          have hKx := grow_obj hg hKW (by simp)
          have A2 := A1 x hg
          have k0 := hax.cell 0
          have kf := hax.frozen 0
          clear A1 hcW c0 c1 f0
          go_wp2_with fail
          (with_reducible refine A2.mono ?_)
          intro e y hy
          cases r with
          | some t =>
            obtain ⟨rfl, hy⟩ := hy
            have hay := hax.kept hy (by simp)
            have k0 := hay.cell 0
            have kf := hay.frozen 0
            have gs := grow_setCell (grow_refl y (some w.heap.size)) 0 (S t)
            unfold S at gs ⊢
            go_wp2_with fail
            exact leave_idle w _ D w.heap.size t _ (grow_obj gs (grow_obj hy hKx (by simp)) (fun e => by have := Option.some.inj e; omega)) (hay.set 0 _) (grow_trans_new (grow_trans hgx hy) gs (Nat.le_refl _)) (Nat.le_refl _) (by omega) rfl
          | none =>
            obtain ⟨rfl, hy⟩ := hy
            exact leave_thrown w y D w.heap.size m _ _ (by omega) (grow_obj hy hKx (by simp)) (hax.kept hy (by simp)) (grow_trans hgx hy) (Nat.le_refl _) (by omega) rfl
      · have h0 : ss = [] := List.eq_nil_of_length_eq_zero (by rw [List.length_cons] at hc1'; omega)
        subst h0
        obtain rfl : cap = 1 := by simp at hc1'; omega
        have A1 : ∀ x : World, W.grownBy x none → Calls Tryz.prog 35 #[S h, .slice (some ⟨g, 0, none⟩) 0 0] x (TPost r m x) := fun x hx => hO x g 0 0 (fun i hi => absurd hi (by simp)) (by simp) (by simp)
        simp only [List.length_cons, List.length_nil, Nat.zero_add] at *
        clear hcell hrow hO hX2 hX1
        unfold S at A1
        try dsimp only
        go_upto_region 9 with (fail)
        refine wp_drawn_tail (by kernel_rfl) ?_
        refine drawn_tail 5 [19, 20, 21, 22, 23] [(PEq (.slice (some ⟨g, 0, none⟩) 1 1)), (PEq (.pointer (some ⟨g, 0, none⟩))), (PEq (.string ⟨h.toArray⟩)), (PEq (.slice (some ⟨g, 0, none⟩) 1 1)), (PEq (.slice (some ⟨g, 0, none⟩) 0 0))] (by kernel_rfl) (by kernel_rfl) (by kernel_rfl) (by kernel_rfl) (by decide) (by decide) (by rfl) ?_ ?_ ?_
        · exact ⟨mono_eq _, mono_eq _, mono_eq _, mono_eq _, mono_eq _, True.intro⟩
        · intro vs x hl hg
          obtain ⟨v0, v1, v2, v3, v4, rfl⟩ := lenD5 hl
          simp only [layAll, Act.put, List.setIfInBounds_toArray, List.set_cons_succ, List.set_cons_zero]
          have q1 := (hvW.kept hg (by simp)).cell 0
          have q2 := hcW x hg
          refine stepsL_cons (fun K hw hr hK => ?_) <| stepsL_cons (fun K hw hr hK => ?_) <| stepsL_cons (fun K hw hr hK => ?_) <| stepsL_cons (fun K hw hr hK => ?_) <| stepsL_cons (fun K hw hr hK => ?_) <| stepsL_nil
          · -- 0: load
            unfold Oper.wp
            go_simp
            exact hK _ _ rfl (grow_refl _ _)
          · -- 1: indexAddr
            have f0 : v0 = _ := hw 0 (by kernel_rfl)
            subst f0
            unfold Oper.wp
            go_simp
            exact hK _ _ rfl (grow_refl _ _)
          · -- 2: load
            have f1 : v1 = _ := hw 1 (by kernel_rfl)
            subst f1
            unfold Oper.wp
            go_simp
            exact hK _ _ rfl (grow_refl _ _)
          · -- 3: load
            unfold Oper.wp
            go_simp
            exact hK _ _ rfl (grow_refl _ _)
          · -- 4: slice
            have f3 : v3 = _ := hw 3 (by kernel_rfl)
            subst f3
            unfold Oper.wp
            go_simp
            exact hK _ _ rfl (grow_refl _ _)
        · intro vs x hl hg hp
          obtain ⟨v0, v1, v2, v3, v4, rfl⟩ := lenD5 hl
          have f0 : v0 = _ := hp 0 _ rfl
          have f1 : v1 = _ := hp 1 _ rfl
          have f2 : v2 = _ := hp 2 _ rfl
          have f3 : v3 = _ := hp 3 _ rfl
          have f4 : v4 = _ := hp 4 _ rfl
          subst f0
          subst f1
          subst f2
          subst f3
          subst f4
          simp only [layAll, Act.put, List.setIfInBounds_toArray, List.set_cons_succ, List.set_cons_zero]
          simp only [List.drop_succ_cons, List.drop_zero]
          clear hp hl
          have hvx := hvW.kept hg (by simp)
          have hax := haW.kept hg (by simp)
          have hgx := grow_trans hgW hg
          have hKx := grow_obj hg hKW (by simp)
          have A2 := A1 x hg
          have k0 := hax.cell 0
          have kf := hax.frozen 0
          clear A1 hcW c0 c1 f0
          go_wp2_with fail
          (with_reducible refine A2.mono ?_)
          intro e y hy
          cases r with
          | some t =>
            obtain ⟨rfl, hy⟩ := hy
            have hay := hax.kept hy (by simp)
            have k0 := hay.cell 0
            have kf := hay.frozen 0
            have gs := grow_setCell (grow_refl y (some w.heap.size)) 0 (S t)
            unfold S at gs ⊢
            go_wp2_with fail
            exact leave_idle w _ D w.heap.size t _ (grow_obj gs (grow_obj hy hKx (by simp)) (fun e => by have := Option.some.inj e; omega)) (hay.set 0 _) (grow_trans_new (grow_trans hgx hy) gs (Nat.le_refl _)) (Nat.le_refl _) (by omega) rfl
          | none =>
            obtain ⟨rfl, hy⟩ := hy
            exact leave_thrown w y D w.heap.size m _ _ (by omega) (grow_obj hy hKx (by simp)) (hax.kept hy (by simp)) (grow_trans hgx hy) (Nat.le_refl _) (by omega) rfl

theorem line_of (HA : ∀ (word : List UInt8) (ss : List (List UInt8)), (∀ s ∈ ss, s.length ≤ 2000) → ss.length ≤ 1000 → AnyL 35 (fun v => #[S word, v]) ss) (s : List UInt8) (hs : s.length ≤ 300) : ∃ t : List UInt8, ∀ w : World, Calls Tryz.prog 23 #[S s] w (Grown (S t) w) := by
  have hwl : ((splitL s).filter fun p => p != []).length ≤ 1000 := Nat.le_trans (List.length_filter_le _ _) (by have := (splitL_le s).1; omega)
  have hwb : ∀ t ∈ (splitL s).filter fun p => p != [], t.length ≤ 2000 := fun t ht => by
    have := (splitL_le s).2 t (List.mem_filter.1 ht).1
    omega
  cases e : (splitL s).filter fun p => p != [] with
  | nil => exact ⟨_, line_at s hs none 3 (by omega) (by omega) (fun _ => ⟨rfl, rfl⟩) (fun h ss e2 => by rw [e] at e2; cases e2)⟩
  | cons h ss =>
    rw [e] at hwl hwb
    obtain ⟨r, m, h1, h2, _, h4⟩ := HA h ss (fun x hx => hwb x (by simp [hx])) (by simp at hwl; omega)
    exact ⟨_, line_at s hs r m h1 h2 (fun e2 => by rw [e] at e2; cases e2) (fun h' ss' e2 => by rw [e] at e2; cases e2; exact h4)⟩

end Go.Proofs.YtmomfbkpniblgaaGreatDoor

namespace Go.Proofs.YtmomfbkpniblgaaGreatDoor
open Go.RowKit
set_option linter.unusedVariables false

def whatB : List UInt8 := [119, 104, 97, 116]
set_option maxHeartbeats 1000000 in
theorem sealed_what : OverRow 59 (fun v => #[S whatB, v]) [] (TPost none 3) := by
  intro w bk o cap hrow hc1 hc2
  obtain ⟨r, hr, C⟩ := any_dsuite []
  have hr0 : r = none := by
    cases r with
    | none => rfl
    | some n => exact absurd (hr n rfl).2 (by simp)
  subst hr0
  have A1 : Calls Tryz.prog 100 #[.slice (some ⟨bk, o, none⟩) ([] : List (List UInt8)).length cap] w (SPost none w) := C w bk o cap hrow hc1 hc2
  unfold SPost at A1
  unfold TPost Thrown whatB S at *
  clear hrow C hr
  simp only [List.length_nil] at *
  go_enter Tryz.func59, Tryz.ntmps59
  go_wp2_with fail
  (with_reducible refine A1.mono ?_)
  rintro e x0 ⟨rfl, hg0⟩
  exact ⟨rfl, rfl, hg0⟩
set_option maxHeartbeats 1000000 in
theorem answered_what : OverRow 35 (fun v => #[S whatB, v]) [] (TPost none 3) := by
  intro w bk o cap hrow hc1 hc2
  have A1 : Calls Tryz.prog 59 #[S whatB, .slice (some ⟨bk, o, none⟩) ([] : List (List UInt8)).length cap] w (TPost none 3 w) := sealed_what w bk o cap hrow hc1 hc2
  unfold TPost Thrown whatB S at *
  clear hrow
  simp only [List.length_nil] at *
  go_enter Tryz.func35, Tryz.ntmps35
  go_wp2_with fail
  (with_reducible refine A1.mono ?_)
  rintro e x0 ⟨rfl, hg0⟩
  exact ⟨rfl, rfl, hg0⟩
theorem code_what (w : World) : Calls Tryz.prog 23 #[S whatB] w (Grown (S (errL 3)) w) :=
  line_at whatB (by decide) none 3 (by omega) (by omega) (fun e => absurd e (by decide)) (fun h ss e => by
    have e2 : ((splitL whatB).filter fun p => p != []) = [whatB] := by decide
    rw [e2] at e
    cases e
    exact answered_what) w

end Go.Proofs.YtmomfbkpniblgaaGreatDoor

namespace Go.Proofs.YtmomfbkpniblgaaGreatDoor
open Go.RowKit
set_option linter.unusedVariables false

/-- What is told of one line; what it makes of each. -/
def LinesAre (f : List UInt8 → List UInt8) : Prop := ∀ s : List UInt8, s.length ≤ 300 → ∀ w : World, Calls Tryz.prog 23 #[S s] w (Grown (S (f s)) w)
/-- The lines are not too many, none is too long. -/
def linesOk (ss : List (List UInt8)) : Prop := ss.length ≤ 60 ∧ ∀ s ∈ ss, s.length ≤ 300
def RanTo (f : List UInt8 → List UInt8) (ss : List (List UInt8)) (w : World) (e : Ending) (w' : World) : Prop := ∃ v, e = .returned (.tuple #[v, .int .i64 0]) ∧ srow w' w.heap.size v (ss.map f) ∧ w.grownBy w' none
def RanNo (w : World) (e : Ending) (w' : World) : Prop := e = .returned (.tuple #[.slice none 0 0, .int .i64 2]) ∧ w = w'

set_option maxHeartbeats 2000000 in
theorem code_drun_many (w : World) (a : Option Addr) (n cap : Nat) (h : 60 < n) : Calls Tryz.prog 8 #[.slice a n cap] w (RanNo w) := by
  have q : (60 : Int) < (n : Int) := by omega
  clear h
  unfold RanNo
  go_enter Tryz.func8, Tryz.ntmps8
  go_wp2_with fail
  go_ret2
  exact ⟨rfl, rfl⟩

set_option maxHeartbeats 2000000 in
theorem code_drun_long (w : World) (a : Option Addr) (ss : List (List UInt8)) (cap : Nat) (hat : StrsAt w a ss) (hc : ss.length ≤ cap) (hn : ss.length ≤ 60) (k : Nat) (hk : k < ss.length) (hlk : ∀ t, ss[k]? = some t → 300 < t.length) (hb : ∀ j (h : j < ss.length), j < k → ss[j].length ≤ 300) (hsz : ∀ s ∈ ss, s.length ≤ 9223372036854775807) : Calls Tryz.prog 8 #[.slice a ss.length cap] w (RanNo w) := by
  have q : ¬ (60 : Int) < (ss.length : Int) := by omega
  obtain ⟨K, hK⟩ : ∃ K, K = ss.length := ⟨_, rfl⟩
  have HAT := Lib.hid hat
  have HB := Lib.hid hb
  have HLK := Lib.hid hlk
  have HSZ := Lib.hid hsz
  have HK := Lib.hid hK
  have hkK : k < K := by omega
  rw [← hK] at hc hn q ⊢
  clear hat hb hlk hK hsz hk
  unfold RanNo
  go_enter Tryz.func8, Tryz.ntmps8
  go_wp2_with fail
  go_loop [14] (fun v14 => ∃ i : Nat, i ≤ k ∧ v14 = .int .i64 i) (fun v14 => K - (intOf v14).toNat)
  case atStart => exact ⟨0, by omega, rfl⟩
  case round =>
    obtain ⟨i, hi, rfl⟩ := hrel
    have hlt : i < ss.length := by have := HK.out; omega
    have hd : decide ((i : Int) < (K : Int)) = true := by simp; omega
    obtain ⟨x0, rfl, hcell⟩ := HAT.out i hlt
    unfold S at hcell
    have hsz := HSZ.out ss[i] (List.getElem_mem hlt)
    rcases Nat.lt_or_ge i k with h1 | h1
    · have hl := HB.out i hlt h1
      have hl2 : ¬ (300 : Int) < (ss[i].length : Int) := by omega
      generalize ss[i] = s at *
      go_wp2_with fail
      go_roundw
      case rel => exact ⟨i + 1, by omega, by go_num⟩
      case measure => simp [intOf]; omega
    · obtain rfl : i = k := by omega
      have hl2 : (300 : Int) < (ss[i].length : Int) := by have := HLK.out ss[i] (by simp [hlt]); omega
      generalize ss[i] = s at *
      go_wp2_with fail
      go_ret2
      exact ⟨rfl, rfl⟩

set_option maxHeartbeats 4000000 in
theorem code_drun_ok (f : List UInt8 → List UInt8) (HF : LinesAre f) (w : World) (a : Option Addr) (ss : List (List UInt8)) (cap : Nat) (hat : StrsAt w a ss) (hc : ss.length ≤ cap) (hok : linesOk ss) : Calls Tryz.prog 8 #[.slice a ss.length cap] w (RanTo f ss w) := by
  obtain ⟨hn, hb⟩ := hok
  have q : ¬ (60 : Int) < (ss.length : Int) := by omega
  obtain ⟨K, hK⟩ : ∃ K, K = ss.length := ⟨_, rfl⟩
  have HAT := Lib.hid hat
  have HB := Lib.hid hb
  have HK := Lib.hid hK
  rw [← hK] at hc hn q ⊢
  have HN := Lib.hid (srow_nil w w.heap.size)
  have HFF := Lib.hid HF
  clear hat hb hK HF
  go_enter Tryz.func8, Tryz.ntmps8
  go_wp2_with fail
  go_loop [14] (fun v14 => ∃ i : Nat, i ≤ K ∧ v14 = .int .i64 i) (fun v14 => K - (intOf v14).toNat)
  case atStart => exact ⟨0, by omega, rfl⟩
  case round =>
    obtain ⟨i, hi, rfl⟩ := hrel
    by_cases hlt : i < K
    · have hlt' : i < ss.length := by have := HK.out; omega
      have hd : decide ((i : Int) < (K : Int)) = true := by simp; omega
      obtain ⟨x0, rfl, hcell⟩ := HAT.out i hlt'
      unfold S at hcell
      have hl := HB.out ss[i] (List.getElem_mem hlt')
      have hl2 : ¬ (300 : Int) < (ss[i].length : Int) := by omega
      generalize ss[i] = s at *
      go_wp2_with fail
      go_roundw
      case rel => exact ⟨i + 1, by omega, by go_num⟩
      case measure => simp [intOf]; omega
    · have hd : decide ((i : Int) < (K : Int)) = false := by simp; omega
      go_wp2_with fail
      go_loopw [6, 24] (fun v6 v24 wr => ∃ j : Nat, j ≤ K ∧ v24 = .int .i64 j ∧ Hid (srow wr w.heap.size v6 ((ss.take j).map f)) ∧ Hid (w.grownBy wr none)) (fun _ v24 _ => K - (intOf v24).toNat)
      case atStart => exact ⟨0, by omega, rfl, Lib.hid (by simpa using HN.out), Lib.hid (grow_refl _ _)⟩
      case round =>
        clear HN hi hlt hd
        obtain ⟨j, hj, rfl, hr, hg⟩ := hrel
        have hgz := hg.out.size
        by_cases hlt : j < K
        · have hlt' : j < ss.length := by have := HK.out; omega
          obtain ⟨t, ht⟩ : ∃ t, t = ss[j] := ⟨_, rfl⟩
          obtain ⟨x0, rfl, hcell⟩ := HAT.out j hlt'
          have hc : wr.cell? (x0.add j) = some (S t) := hg.out.cell (by rw [ht]; exact hcell) (by simp)
          have hd : decide ((j : Int) < (K : Int)) = true := by simp; omega
          have HT := Lib.hid ht
          have A := HFF.out t (by rw [ht]; exact HB.out _ (List.getElem_mem hlt'))
          obtain ⟨u, hu⟩ : ∃ u, u = f t := ⟨_, rfl⟩
          rw [← hu] at A
          have HU := Lib.hid hu
          clear hu ht hcell
          unfold S at A hc
          go_wp2_with fail
          (with_reducible refine (A _).mono ?_)
          rintro e x ⟨rfl, hg2⟩
          have hg3 := grow_trans hg.out hg2
          have hrx := hr.out.keptN hg2
          have hsx : w.heap.size ≤ x.heap.size := hg3.size
          have HG3 := Lib.hid hg3
          have HRX := Lib.hid hrx
          have HLO := Lib.hid (show ((ss.take j).map f).length = j from by rw [List.length_map, List.length_take]; omega)
          clear hr hg hg2 hg3 hrx A hgz
          go_wp2_with (at_builtin; go_must (refine append_str rfl _ _ rfl w.heap.size _ _ rfl HRX.out u _ rfl rfl (by rw [HLO.out]; omega) hsx ?_))
          intro v' w' hown' hg'
          have HO := Lib.hid hown'
          have HG' := Lib.hid (srow_grown HRX.out HG3.out hg')
          clear hown' hg' HRX HG3
          go_wp2_with fail
          go_roundw
          case rel =>
            refine ⟨j + 1, by omega, by go_num, Lib.hid ?_, Lib.hid HG'.out⟩
            have e := HO.out
            rw [HU.out, HT.out] at e
            rw [List.take_succ_eq_append_getElem hlt', List.map_append, List.map_take]
            exact e
          case measure => simp [intOf]; omega
        · have hd : decide ((j : Int) < (K : Int)) = false := by simp; omega
          go_wp2_with fail
          refine bodyPost_ret (v := .tuple #[u6, .int .i64 0]) (by simp [results, Tryz.results8, go_sem]) rfl ?_
          refine ⟨_, rfl, ?_, hg.out⟩
          have e2 := hr.out
          rw [List.take_of_length_le (by have := HK.out; omega)] at e2
          exact e2

end Go.Proofs.YtmomfbkpniblgaaGreatDoor
