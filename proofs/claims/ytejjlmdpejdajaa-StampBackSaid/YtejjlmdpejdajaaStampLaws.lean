/- The walks of the two statements on times. -/
import Derived.Test.YtejjlmdpejdajaaStampRead
import Derived.Test.YtejjlmdpejdajaaStampAfter
import Derived.Test.YtejjlmdpejdajaaOpen
namespace Go.Proofs.Ytejjlmdpejdajaa
open Go.RowKit
set_option linter.unusedVariables false

theorem list_of (s : ByteArray) : ∃ l : List UInt8, s = ⟨l.toArray⟩ ∧ l.length = s.size := ⟨s.data.toList, rfl, by rw [Array.length_toList]; rfl⟩

theorem bigN_append (a b : List UInt8) : bigN (a ++ b) = bigN a * 256 ^ b.length + bigN b := by
  have h : ∀ (b : List UInt8) (n : Nat), b.foldl (fun n c => n * 256 + c.toNat) n = n * 256 ^ b.length + b.foldl (fun n c => n * 256 + c.toNat) 0 := by
    intro b
    induction b with
    | nil => intro n; simp
    | cons c b ih =>
      intro n
      rw [List.foldl_cons, ih, List.foldl_cons, ih (0 * 256 + c.toNat), List.length_cons, Nat.pow_succ, Nat.add_mul]
      simp only [Nat.zero_mul, Nat.zero_add]
      have : n * 256 * 256 ^ b.length = n * (256 ^ b.length * 256) := by rw [Nat.mul_assoc, Nat.mul_comm 256]
      omega
  unfold bigN
  rw [List.foldl_append, h b]

theorem bigB_succ (n k : Nat) : bigB n (k + 1) = UInt8.ofNat (n / 256 ^ k) :: bigB n k := by
  unfold bigB
  rw [List.range_succ_eq_map, List.map_cons, List.map_map]
  congr 1
  · have : 2 ^ (8 * (k + 1 - 1 - 0)) = 256 ^ k := by
      rw [show k + 1 - 1 - 0 = k from by omega, Nat.pow_mul]
    rw [this]
  · apply List.map_congr_left
    intro i hi
    have hi' := List.mem_range.1 hi
    simp only [Function.comp]
    rw [show k + 1 - 1 - (i + 1) = k - 1 - i from by omega]

/-- What was written in so many bytes is read back. -/
theorem bigN_bigB (n : Nat) : ∀ k, bigN (bigB n k) = n % 256 ^ k
  | 0 => by simp [bigB, bigN, Nat.mod_one]
  | k + 1 => by
    rw [bigB_succ, show UInt8.ofNat (n / 256 ^ k) :: bigB n k = [UInt8.ofNat (n / 256 ^ k)] ++ bigB n k from rfl, bigN_append, bigN_bigB n k, bigB_length]
    have e : bigN [UInt8.ofNat (n / 256 ^ k)] = n / 256 ^ k % 256 := by simp [bigN]
    rw [e, Nat.pow_succ, Nat.mod_mul]
    rw [Nat.mul_comm]
    omega

theorem bigN_cons (c : UInt8) (l : List UInt8) : bigN (c :: l) = c.toNat * 256 ^ l.length + bigN l := by
  rw [show c :: l = [c] ++ l from rfl, bigN_append]; simp [bigN]

theorem bigN_inj : ∀ a b : List UInt8, a.length = b.length → bigN a = bigN b → a = b
  | [], [], _, _ => rfl
  | c :: a, d :: b, hl, h => by
    have hl' : a.length = b.length := by simpa using hl
    rw [bigN_cons, bigN_cons, hl'] at h
    have h1 := bigN_lt a
    have h2 := bigN_lt b
    rw [hl'] at h1
    have e : c.toNat = d.toNat := by
      rcases Nat.lt_trichotomy c.toNat d.toNat with hc | hc | hc
      · have := Nat.mul_le_mul_right (256 ^ b.length) (show c.toNat + 1 ≤ d.toNat from hc)
        rw [Nat.add_mul] at this; omega
      · exact hc
      · have := Nat.mul_le_mul_right (256 ^ b.length) (show d.toNat + 1 ≤ c.toNat from hc)
        rw [Nat.add_mul] at this; omega
    rw [e] at h
    rw [UInt8.toNat_inj.1 e, bigN_inj a b hl' (by omega)]

/-- What is read is written so. -/
theorem bigB_bigN (l : List UInt8) : bigB (bigN l) l.length = l :=
  bigN_inj _ _ (bigB_length _ _) (by rw [bigN_bigB, Nat.mod_eq_of_lt (bigN_lt l)])

theorem u8_cmp (a b : UInt8) : decide (a < b) = decide (a.toNat < b.toNat) ∧ (a == b) = decide (a.toNat = b.toNat) := by
  constructor
  · rfl
  · rw [Bool.eq_iff_iff]
    simp [UInt8.toNat_inj]

/-- Of one length: the bytes' order is the numbers'. -/
theorem big_less : ∀ a b : List UInt8, a.length = b.length → Op.bytesLess a b = decide (bigN a < bigN b)
  | [], [], _ => rfl
  | c :: a, d :: b, hl => by
    have hl' : a.length = b.length := by simpa using hl
    simp only [Op.bytesLess]
    rw [big_less a b hl', (u8_cmp c d).1, (u8_cmp c d).2, bigN_cons, bigN_cons, hl']
    have h1 := bigN_lt a
    have h2 := bigN_lt b
    rw [hl'] at h1
    rw [Bool.eq_iff_iff]
    simp
    rcases Nat.lt_trichotomy c.toNat d.toNat with hc | hc | hc
    · have := Nat.mul_le_mul_right (256 ^ b.length) (show c.toNat + 1 ≤ d.toNat from hc)
      rw [Nat.add_mul] at this; omega
    · rw [hc]; omega
    · have := Nat.mul_le_mul_right (256 ^ b.length) (show d.toNat + 1 ≤ c.toNat from hc)
      rw [Nat.add_mul] at this; omega

theorem isT_iff {s n : Int} : isT s n = true ↔ 0 ≤ s ∧ s ≤ 1099511627776 ∧ 0 ≤ n ∧ n ≤ 999999999 := by
  unfold isT; simp [and_assoc]

theorem stampB_length (s n : Int) : (stampB s n).length = 12 := by simp [stampB, bigB_length]

theorem stampB_take (s n : Int) : (stampB s n).take 8 = bigB (4611686018427387904 + s.toNat) 8 ∧ ((stampB s n).drop 8).take 4 = bigB n.toNat 4 := by
  unfold stampB
  constructor
  · rw [List.take_append_of_le_length (by rw [bigB_length]; omega), List.take_of_length_le (by rw [bigB_length]; omega)]
  · rw [List.drop_append_of_le_length (by rw [bigB_length]; omega), List.drop_of_length_le (by rw [bigB_length]; omega), List.nil_append, List.take_of_length_le (by rw [bigB_length]; omega)]

theorem stamp_there {s n : Int} (h : isT s n = true) : stampSec (stampB s n) = s ∧ stampNano (stampB s n) = n := by
  obtain ⟨h1, h2, h3, h4⟩ := isT_iff.1 h
  unfold stampSec stampNano
  rw [(stampB_take s n).1, (stampB_take s n).2, bigN_bigB, bigN_bigB]
  have e1 : (4611686018427387904 + s.toNat) % 256 ^ 8 = 4611686018427387904 + s.toNat := Nat.mod_eq_of_lt (by omega)
  have e2 : n.toNat % 256 ^ 4 = n.toNat := Nat.mod_eq_of_lt (by omega)
  rw [e1, e2]
  constructor
  · rw [IntWalk.u64_in _ (by omega), IntWalk.wrap64_in _ (by omega)]; omega
  · rw [IntWalk.wrap64_in _ (by omega)]; omega

theorem stamp_back {l : List UInt8} (hl : l.length = 12) (h : isT (stampSec l) (stampNano l) = true) : stampB (stampSec l) (stampNano l) = l := by
  obtain ⟨h1, h2, h3, h4⟩ := isT_iff.1 h
  have b1 := bigN_lt (l.take 8)
  have b2 := bigN_lt ((l.drop 8).take 4)
  have l1 : (l.take 8).length = 8 := by rw [List.length_take]; omega
  have l2 : ((l.drop 8).take 4).length = 4 := by rw [List.length_take, List.length_drop]; omega
  rw [l1] at b1
  rw [l2] at b2
  have e1 : 4611686018427387904 + (stampSec l).toNat = bigN (l.take 8) := by
    have : stampSec l = wrap64 (IntKind.u64.wrap ((bigN (l.take 8) : Int) - 4611686018427387904)) := rfl
    rw [IntKind.wrap_u64] at this
    unfold wrap64 at this
    omega
  have e2 : (stampNano l).toNat = bigN ((l.drop 8).take 4) := by
    have : stampNano l = wrap64 (bigN ((l.drop 8).take 4) : Int) := rfl
    unfold wrap64 at this
    omega
  unfold stampB
  rw [e1, e2]
  have g1 := bigB_bigN (l.take 8)
  have g2 := bigB_bigN ((l.drop 8).take 4)
  rw [l1] at g1
  rw [l2] at g2
  rw [g1, g2]
  have : (l.drop 8).take 4 = l.drop 8 := List.take_of_length_le (by rw [List.length_drop]; omega)
  rw [this, List.take_append_drop]

theorem laterT_facts (s n s' n' s2 n2 : Int) : laterT s n s n = false ∧ (laterT s n s' n' && laterT s' n' s n) = false ∧ (laterT s n s' n' = true → laterT s' n' s2 n2 = true → laterT s n s2 n2 = true) := by
  unfold laterT
  refine ⟨by simp, ?_, ?_⟩
  · rw [Bool.eq_false_iff]; intro h; simp at h; omega
  · intro h1 h2; simp at h1 h2 ⊢; omega

/-- The bytes' order is the times'. -/
theorem stamp_less {s n s' n' : Int} (h : isT s n = true) (h' : isT s' n' = true) : Op.bytesLess (stampB s' n') (stampB s n) = laterT s n s' n' := by
  obtain ⟨h1, h2, h3, h4⟩ := isT_iff.1 h
  obtain ⟨g1, g2, g3, g4⟩ := isT_iff.1 h'
  rw [big_less _ _ (by rw [stampB_length, stampB_length])]
  have e : ∀ s n : Int, 0 ≤ s → s ≤ 1099511627776 → 0 ≤ n → n ≤ 999999999 → bigN (stampB s n) = (4611686018427387904 + s.toNat) * 4294967296 + n.toNat := by
    intro s n a b c d
    unfold stampB
    rw [bigN_append, bigN_bigB, bigN_bigB, bigB_length]
    rw [Nat.mod_eq_of_lt (show 4611686018427387904 + s.toNat < 256 ^ 8 by omega), Nat.mod_eq_of_lt (show n.toNat < 256 ^ 4 by omega)]
  rw [e s n h1 h2 h3 h4, e s' n' g1 g2 g3 g4]
  unfold laterT
  rw [Bool.eq_iff_iff]
  simp
  omega

/-- Three times in blocks side by side. -/
def ThreeAt (x : World) (b : Nat) (x0 x1 y0 y1 z0 z1 : Int) : Prop :=
  x.heap[b]? = some (.cells #[.int .i64 x0, .int .i64 x1] 45 (0, 0)) ∧ x.heap[b + 1]? = some (.cells #[.int .i64 y0, .int .i64 y1] 45 (0, 0)) ∧ x.heap[b + 2]? = some (.cells #[.int .i64 z0, .int .i64 z1] 45 (0, 0))

theorem ThreeAt.kept {x x' : World} {b : Nat} {x0 x1 y0 y1 z0 z1 : Int} (h : ThreeAt x b x0 x1 y0 y1 z0 z1) (g : x.grownBy x' none) : ThreeAt x' b x0 x1 y0 y1 z0 z1 :=
  ⟨grow_obj g h.1 (by simp), grow_obj g h.2.1 (by simp), grow_obj g h.2.2 (by simp)⟩

theorem ThreeAt.cells {x : World} {b : Nat} {x0 x1 y0 y1 z0 z1 : Int} (h : ThreeAt x b x0 x1 y0 y1 z0 z1) :
    x.cell? ⟨b, 0, none⟩ = some (.int .i64 x0) ∧ x.cell? ⟨b, 1, none⟩ = some (.int .i64 x1) ∧ x.cell? ⟨b + 1, 0, none⟩ = some (.int .i64 y0) ∧ x.cell? ⟨b + 1, 1, none⟩ = some (.int .i64 y1) ∧ x.cell? ⟨b + 1 + 1, 0, none⟩ = some (.int .i64 z0) ∧ x.cell? ⟨b + 1 + 1, 1, none⟩ = some (.int .i64 z1) := by
  obtain ⟨h1, h2, h3⟩ := h
  refine ⟨?_, ?_, ?_, ?_, ?_, ?_⟩
  · rw [obj_cell h1]; rfl
  · rw [obj_cell h1]; rfl
  · rw [obj_cell h2]; rfl
  · rw [obj_cell h2]; rfl
  · rw [obj_cell h3]; rfl
  · rw [obj_cell h3]; rfl

theorem three_made (w : World) (x0 x1 y0 y1 z0 z1 : Int) : ThreeAt (((w.alloc (.cells #[.int .i64 x0, .int .i64 x1] 45)).alloc (.cells #[.int .i64 y0, .int .i64 y1] 45)).alloc (.cells #[.int .i64 z0, .int .i64 z1] 45)) w.heap.size x0 x1 y0 y1 z0 z1 := by
  refine ⟨obj_alloc (obj_alloc (obj_new w _)), obj_alloc (two_obj w _ _).2, ?_⟩
  have := obj_new ((w.alloc (.cells #[.int .i64 x0, .int .i64 x1] 45)).alloc (.cells #[.int .i64 y0, .int .i64 y1] 45)) (.cells #[.int .i64 z0, .int .i64 z1] 45)
  rw [show ((w.alloc (.cells #[.int .i64 x0, .int .i64 x1] 45)).alloc (.cells #[.int .i64 y0, .int .i64 y1] 45)).heap.size = w.heap.size + 2 from by simp] at this
  exact this

theorem stamp_gtr {s n s' n' : Int} (h : isT s n = true) (h' : isT s' n' = true) : (!Op.bytesLess (stampB s n) (stampB s' n') && !(stampB s n == stampB s' n')) = laterT s n s' n' := by
  rw [stamp_less h' h]
  have e : (stampB s n == stampB s' n') = (decide (s = s') && decide (n = n')) := by
    rw [Bool.eq_iff_iff]
    simp
    constructor
    · intro hb
      have a := stamp_there h
      have b := stamp_there h'
      rw [hb] at a
      exact ⟨a.1.symm.trans b.1, a.2.symm.trans b.2⟩
    · rintro ⟨rfl, rfl⟩; rfl
  rw [e]
  unfold laterT
  rw [Bool.eq_iff_iff]
  simp
  omega

set_option maxHeartbeats 4000000 in
theorem walk_StampOrder (x0 x1 y0 y1 z0 z1 : Int) (_ : (Lit.int .i64 x0).wf = true) (_ : (Lit.int .i64 x1).wf = true) (_ : (Lit.int .i64 y0).wf = true) (_ : (Lit.int .i64 y1).wf = true) (_ : (Lit.int .i64 z0).wf = true) (_ : (Lit.int .i64 z1).wf = true) (w : World) :
    Calls Try.prog 13 #[.agg #[.int .i64 x0, .int .i64 x1], .agg #[.int .i64 y0, .int .i64 y1], .agg #[.int .i64 z0, .int .i64 z1]] w fun e w' => e = .returned (.bool true) ∧ Below w.heap.size w w' := by
  obtain ⟨htt, hax, htr⟩ := laterT_facts x0 x1 y0 y1 z0 z1
  have hgt := fun h h' => stamp_gtr (s := x0) (n := x1) (s' := y0) (n' := y1) h h'
  have Hgt := Lib.hid hgt
  have Htt := Lib.hid htt
  have Hax := Lib.hid hax
  have Htr := Lib.hid htr
  clear htt hax htr hgt
  have T := three_made w x0 x1 y0 y1 z0 z1
  have HB : Below w.heap.size w (((w.alloc (.cells #[.int .i64 x0, .int .i64 x1] 45)).alloc (.cells #[.int .i64 y0, .int .i64 y1] 45)).alloc (.cells #[.int .i64 z0, .int .i64 z1] 45)) :=
    grow_below (r := none) (grow_alloc (grow_alloc (grow_alloc (grow_refl w _) _) _) _) _ (Nat.le_refl _) (by simp)
  obtain ⟨c0, c1, c2, c3, c4, c5⟩ := T.cells
  cases hs : isT x0 x1 <;> cases hu : isT y0 y1
  · have Hs := Lib.hid hs
    have Hu := Lib.hid hu
    clear hs hu
    go_enter Try.func13, Try.ntmps13
    go_wp2_with fail
    refine (stamp_write_no _ _ _ Hs.out).mono ?_
    rintro e q1 ⟨rfl, hg⟩
    replace T := T.kept hg
    replace HB := below_step HB hg (by simp)
    clear hg c0 c1 c2 c3 c4 c5
    obtain ⟨c0, c1, c2, c3, c4, c5⟩ := T.cells
    go_wp2_with fail
    refine (stamp_write_no _ _ _ Hu.out).mono ?_
    rintro e q2 ⟨rfl, hg⟩
    replace T := T.kept hg
    replace HB := below_step HB hg (by simp)
    clear hg c0 c1 c2 c3 c4 c5
    obtain ⟨c0, c1, c2, c3, c4, c5⟩ := T.cells
    go_wp2_with fail
    refine (stamp_after _ _ _ _ _).mono ?_
    rintro e q3 ⟨rfl, hg⟩
    replace T := T.kept hg
    replace HB := below_step HB hg (by simp)
    clear hg c0 c1 c2 c3 c4 c5
    obtain ⟨c0, c1, c2, c3, c4, c5⟩ := T.cells
    rw [show laterT 1 0 0 5 = true from by decide +kernel]
    go_wp2_with fail
    refine (stamp_after _ _ _ _ _).mono ?_
    rintro e q4 ⟨rfl, hg⟩
    replace T := T.kept hg
    replace HB := below_step HB hg (by simp)
    clear hg c0 c1 c2 c3 c4 c5
    obtain ⟨c0, c1, c2, c3, c4, c5⟩ := T.cells
    rw [Htt.out]
    go_wp2_with fail
    refine (stamp_after _ _ _ _ _).mono ?_
    rintro e q5 ⟨rfl, hg⟩
    replace T := T.kept hg
    replace HB := below_step HB hg (by simp)
    clear hg c0 c1 c2 c3 c4 c5
    obtain ⟨c0, c1, c2, c3, c4, c5⟩ := T.cells
    cases htu : laterT x0 x1 y0 y1
    · have Htu := Lib.hid htu
      clear htu
      go_wp2_with fail
      refine (stamp_after _ _ _ _ _).mono ?_
      rintro e q6 ⟨rfl, hg⟩
      replace T := T.kept hg
      replace HB := below_step HB hg (by simp)
      clear hg c0 c1 c2 c3 c4 c5
      obtain ⟨c0, c1, c2, c3, c4, c5⟩ := T.cells
      rw [Htu.out]
      go_wp2_with fail
      go_ret
      exact ⟨rfl, HB⟩
    · have Htu := Lib.hid htu
      have hut : laterT y0 y1 x0 x1 = false := by have := Hax.out; rw [htu] at this; simpa using this
      have Hut := Lib.hid hut
      clear htu hut
      go_wp2_with fail
      refine (stamp_after _ _ _ _ _).mono ?_
      rintro e q6 ⟨rfl, hg⟩
      replace T := T.kept hg
      replace HB := below_step HB hg (by simp)
      clear hg c0 c1 c2 c3 c4 c5
      obtain ⟨c0, c1, c2, c3, c4, c5⟩ := T.cells
      rw [Hut.out]
      go_wp2_with fail
      refine (stamp_after _ _ _ _ _).mono ?_
      rintro e q7 ⟨rfl, hg⟩
      replace T := T.kept hg
      replace HB := below_step HB hg (by simp)
      clear hg c0 c1 c2 c3 c4 c5
      obtain ⟨c0, c1, c2, c3, c4, c5⟩ := T.cells
      rw [Htu.out]
      go_wp2_with fail
      refine (stamp_after _ _ _ _ _).mono ?_
      rintro e q8 ⟨rfl, hg⟩
      replace T := T.kept hg
      replace HB := below_step HB hg (by simp)
      clear hg c0 c1 c2 c3 c4 c5
      obtain ⟨c0, c1, c2, c3, c4, c5⟩ := T.cells
      cases huv : laterT y0 y1 z0 z1
      · clear huv
        go_wp2_with fail
        go_ret
        exact ⟨rfl, HB⟩
      · have Htv := Lib.hid (Htr.out Htu.out huv)
        clear huv
        go_wp2_with fail
        refine (stamp_after _ _ _ _ _).mono ?_
        rintro e q9 ⟨rfl, hg⟩
        replace T := T.kept hg
        replace HB := below_step HB hg (by simp)
        clear hg c0 c1 c2 c3 c4 c5
        obtain ⟨c0, c1, c2, c3, c4, c5⟩ := T.cells
        rw [Htv.out]
        go_wp2_with fail
        go_ret
        exact ⟨rfl, HB⟩
  · have Hs := Lib.hid hs
    have Hu := Lib.hid hu
    clear hs hu
    go_enter Try.func13, Try.ntmps13
    go_wp2_with fail
    refine (stamp_write_no _ _ _ Hs.out).mono ?_
    rintro e q1 ⟨rfl, hg⟩
    replace T := T.kept hg
    replace HB := below_step HB hg (by simp)
    clear hg c0 c1 c2 c3 c4 c5
    obtain ⟨c0, c1, c2, c3, c4, c5⟩ := T.cells
    go_wp2_with fail
    refine (stamp_write_ok _ _ _ Hu.out).mono ?_
    rintro e q2 ⟨rfl, hg⟩
    replace T := T.kept hg
    replace HB := below_step HB hg (by simp)
    clear hg c0 c1 c2 c3 c4 c5
    obtain ⟨c0, c1, c2, c3, c4, c5⟩ := T.cells
    go_wp2_with fail
    refine (stamp_after _ _ _ _ _).mono ?_
    rintro e q3 ⟨rfl, hg⟩
    replace T := T.kept hg
    replace HB := below_step HB hg (by simp)
    clear hg c0 c1 c2 c3 c4 c5
    obtain ⟨c0, c1, c2, c3, c4, c5⟩ := T.cells
    rw [show laterT 1 0 0 5 = true from by decide +kernel]
    go_wp2_with fail
    refine (stamp_after _ _ _ _ _).mono ?_
    rintro e q4 ⟨rfl, hg⟩
    replace T := T.kept hg
    replace HB := below_step HB hg (by simp)
    clear hg c0 c1 c2 c3 c4 c5
    obtain ⟨c0, c1, c2, c3, c4, c5⟩ := T.cells
    rw [Htt.out]
    go_wp2_with fail
    refine (stamp_after _ _ _ _ _).mono ?_
    rintro e q5 ⟨rfl, hg⟩
    replace T := T.kept hg
    replace HB := below_step HB hg (by simp)
    clear hg c0 c1 c2 c3 c4 c5
    obtain ⟨c0, c1, c2, c3, c4, c5⟩ := T.cells
    cases htu : laterT x0 x1 y0 y1
    · have Htu := Lib.hid htu
      clear htu
      go_wp2_with fail
      refine (stamp_after _ _ _ _ _).mono ?_
      rintro e q6 ⟨rfl, hg⟩
      replace T := T.kept hg
      replace HB := below_step HB hg (by simp)
      clear hg c0 c1 c2 c3 c4 c5
      obtain ⟨c0, c1, c2, c3, c4, c5⟩ := T.cells
      rw [Htu.out]
      go_wp2_with fail
      go_ret
      exact ⟨rfl, HB⟩
    · have Htu := Lib.hid htu
      have hut : laterT y0 y1 x0 x1 = false := by have := Hax.out; rw [htu] at this; simpa using this
      have Hut := Lib.hid hut
      clear htu hut
      go_wp2_with fail
      refine (stamp_after _ _ _ _ _).mono ?_
      rintro e q6 ⟨rfl, hg⟩
      replace T := T.kept hg
      replace HB := below_step HB hg (by simp)
      clear hg c0 c1 c2 c3 c4 c5
      obtain ⟨c0, c1, c2, c3, c4, c5⟩ := T.cells
      rw [Hut.out]
      go_wp2_with fail
      refine (stamp_after _ _ _ _ _).mono ?_
      rintro e q7 ⟨rfl, hg⟩
      replace T := T.kept hg
      replace HB := below_step HB hg (by simp)
      clear hg c0 c1 c2 c3 c4 c5
      obtain ⟨c0, c1, c2, c3, c4, c5⟩ := T.cells
      rw [Htu.out]
      go_wp2_with fail
      refine (stamp_after _ _ _ _ _).mono ?_
      rintro e q8 ⟨rfl, hg⟩
      replace T := T.kept hg
      replace HB := below_step HB hg (by simp)
      clear hg c0 c1 c2 c3 c4 c5
      obtain ⟨c0, c1, c2, c3, c4, c5⟩ := T.cells
      cases huv : laterT y0 y1 z0 z1
      · clear huv
        go_wp2_with fail
        go_ret
        exact ⟨rfl, HB⟩
      · have Htv := Lib.hid (Htr.out Htu.out huv)
        clear huv
        go_wp2_with fail
        refine (stamp_after _ _ _ _ _).mono ?_
        rintro e q9 ⟨rfl, hg⟩
        replace T := T.kept hg
        replace HB := below_step HB hg (by simp)
        clear hg c0 c1 c2 c3 c4 c5
        obtain ⟨c0, c1, c2, c3, c4, c5⟩ := T.cells
        rw [Htv.out]
        go_wp2_with fail
        go_ret
        exact ⟨rfl, HB⟩
  · have Hs := Lib.hid hs
    have Hu := Lib.hid hu
    clear hs hu
    go_enter Try.func13, Try.ntmps13
    go_wp2_with fail
    refine (stamp_write_ok _ _ _ Hs.out).mono ?_
    rintro e q1 ⟨rfl, hg⟩
    replace T := T.kept hg
    replace HB := below_step HB hg (by simp)
    clear hg c0 c1 c2 c3 c4 c5
    obtain ⟨c0, c1, c2, c3, c4, c5⟩ := T.cells
    go_wp2_with fail
    refine (stamp_write_no _ _ _ Hu.out).mono ?_
    rintro e q2 ⟨rfl, hg⟩
    replace T := T.kept hg
    replace HB := below_step HB hg (by simp)
    clear hg c0 c1 c2 c3 c4 c5
    obtain ⟨c0, c1, c2, c3, c4, c5⟩ := T.cells
    go_wp2_with fail
    refine (stamp_after _ _ _ _ _).mono ?_
    rintro e q3 ⟨rfl, hg⟩
    replace T := T.kept hg
    replace HB := below_step HB hg (by simp)
    clear hg c0 c1 c2 c3 c4 c5
    obtain ⟨c0, c1, c2, c3, c4, c5⟩ := T.cells
    rw [show laterT 1 0 0 5 = true from by decide +kernel]
    go_wp2_with fail
    refine (stamp_after _ _ _ _ _).mono ?_
    rintro e q4 ⟨rfl, hg⟩
    replace T := T.kept hg
    replace HB := below_step HB hg (by simp)
    clear hg c0 c1 c2 c3 c4 c5
    obtain ⟨c0, c1, c2, c3, c4, c5⟩ := T.cells
    rw [Htt.out]
    go_wp2_with fail
    refine (stamp_after _ _ _ _ _).mono ?_
    rintro e q5 ⟨rfl, hg⟩
    replace T := T.kept hg
    replace HB := below_step HB hg (by simp)
    clear hg c0 c1 c2 c3 c4 c5
    obtain ⟨c0, c1, c2, c3, c4, c5⟩ := T.cells
    cases htu : laterT x0 x1 y0 y1
    · have Htu := Lib.hid htu
      clear htu
      go_wp2_with fail
      refine (stamp_after _ _ _ _ _).mono ?_
      rintro e q6 ⟨rfl, hg⟩
      replace T := T.kept hg
      replace HB := below_step HB hg (by simp)
      clear hg c0 c1 c2 c3 c4 c5
      obtain ⟨c0, c1, c2, c3, c4, c5⟩ := T.cells
      rw [Htu.out]
      go_wp2_with fail
      go_ret
      exact ⟨rfl, HB⟩
    · have Htu := Lib.hid htu
      have hut : laterT y0 y1 x0 x1 = false := by have := Hax.out; rw [htu] at this; simpa using this
      have Hut := Lib.hid hut
      clear htu hut
      go_wp2_with fail
      refine (stamp_after _ _ _ _ _).mono ?_
      rintro e q6 ⟨rfl, hg⟩
      replace T := T.kept hg
      replace HB := below_step HB hg (by simp)
      clear hg c0 c1 c2 c3 c4 c5
      obtain ⟨c0, c1, c2, c3, c4, c5⟩ := T.cells
      rw [Hut.out]
      go_wp2_with fail
      refine (stamp_after _ _ _ _ _).mono ?_
      rintro e q7 ⟨rfl, hg⟩
      replace T := T.kept hg
      replace HB := below_step HB hg (by simp)
      clear hg c0 c1 c2 c3 c4 c5
      obtain ⟨c0, c1, c2, c3, c4, c5⟩ := T.cells
      rw [Htu.out]
      go_wp2_with fail
      refine (stamp_after _ _ _ _ _).mono ?_
      rintro e q8 ⟨rfl, hg⟩
      replace T := T.kept hg
      replace HB := below_step HB hg (by simp)
      clear hg c0 c1 c2 c3 c4 c5
      obtain ⟨c0, c1, c2, c3, c4, c5⟩ := T.cells
      cases huv : laterT y0 y1 z0 z1
      · clear huv
        go_wp2_with fail
        go_ret
        exact ⟨rfl, HB⟩
      · have Htv := Lib.hid (Htr.out Htu.out huv)
        clear huv
        go_wp2_with fail
        refine (stamp_after _ _ _ _ _).mono ?_
        rintro e q9 ⟨rfl, hg⟩
        replace T := T.kept hg
        replace HB := below_step HB hg (by simp)
        clear hg c0 c1 c2 c3 c4 c5
        obtain ⟨c0, c1, c2, c3, c4, c5⟩ := T.cells
        rw [Htv.out]
        go_wp2_with fail
        go_ret
        exact ⟨rfl, HB⟩
  · have Hs := Lib.hid hs
    have Hu := Lib.hid hu
    clear hs hu
    go_enter Try.func13, Try.ntmps13
    go_wp2_with fail
    refine (stamp_write_ok _ _ _ Hs.out).mono ?_
    rintro e q1 ⟨rfl, hg⟩
    replace T := T.kept hg
    replace HB := below_step HB hg (by simp)
    clear hg c0 c1 c2 c3 c4 c5
    obtain ⟨c0, c1, c2, c3, c4, c5⟩ := T.cells
    go_wp2_with fail
    refine (stamp_write_ok _ _ _ Hu.out).mono ?_
    rintro e q2 ⟨rfl, hg⟩
    replace T := T.kept hg
    replace HB := below_step HB hg (by simp)
    clear hg c0 c1 c2 c3 c4 c5
    obtain ⟨c0, c1, c2, c3, c4, c5⟩ := T.cells
    go_wp2_with fail
    refine (stamp_after _ _ _ _ _).mono ?_
    rintro e q3 ⟨rfl, hg⟩
    replace T := T.kept hg
    replace HB := below_step HB hg (by simp)
    clear hg c0 c1 c2 c3 c4 c5
    obtain ⟨c0, c1, c2, c3, c4, c5⟩ := T.cells
    rw [show laterT 1 0 0 5 = true from by decide +kernel]
    go_wp2_with fail
    refine (stamp_after _ _ _ _ _).mono ?_
    rintro e q4 ⟨rfl, hg⟩
    replace T := T.kept hg
    replace HB := below_step HB hg (by simp)
    clear hg c0 c1 c2 c3 c4 c5
    obtain ⟨c0, c1, c2, c3, c4, c5⟩ := T.cells
    rw [Htt.out]
    go_wp2_with fail
    refine (stamp_after _ _ _ _ _).mono ?_
    rintro e q5 ⟨rfl, hg⟩
    replace T := T.kept hg
    replace HB := below_step HB hg (by simp)
    clear hg c0 c1 c2 c3 c4 c5
    obtain ⟨c0, c1, c2, c3, c4, c5⟩ := T.cells
    cases htu : laterT x0 x1 y0 y1
    · have Htu := Lib.hid htu
      clear htu
      go_wp2_with fail
      refine (stamp_after _ _ _ _ _).mono ?_
      rintro e q6 ⟨rfl, hg⟩
      replace T := T.kept hg
      replace HB := below_step HB hg (by simp)
      clear hg c0 c1 c2 c3 c4 c5
      obtain ⟨c0, c1, c2, c3, c4, c5⟩ := T.cells
      rw [Htu.out]
      go_wp2_with fail
      refine (stamp_after _ _ _ _ _).mono ?_
      rintro e q7 ⟨rfl, hg⟩
      replace T := T.kept hg
      replace HB := below_step HB hg (by simp)
      clear hg c0 c1 c2 c3 c4 c5
      obtain ⟨c0, c1, c2, c3, c4, c5⟩ := T.cells
      rw [Htu.out]
      have HG := Hgt.out Hs.out Hu.out
      rw [Htu.out] at HG
      unfold S
      go_wp2_with fail
      go_ret
      exact ⟨rfl, HB⟩
    · have Htu := Lib.hid htu
      have hut : laterT y0 y1 x0 x1 = false := by have := Hax.out; rw [htu] at this; simpa using this
      have Hut := Lib.hid hut
      clear htu hut
      go_wp2_with fail
      refine (stamp_after _ _ _ _ _).mono ?_
      rintro e q6 ⟨rfl, hg⟩
      replace T := T.kept hg
      replace HB := below_step HB hg (by simp)
      clear hg c0 c1 c2 c3 c4 c5
      obtain ⟨c0, c1, c2, c3, c4, c5⟩ := T.cells
      rw [Hut.out]
      go_wp2_with fail
      refine (stamp_after _ _ _ _ _).mono ?_
      rintro e q7 ⟨rfl, hg⟩
      replace T := T.kept hg
      replace HB := below_step HB hg (by simp)
      clear hg c0 c1 c2 c3 c4 c5
      obtain ⟨c0, c1, c2, c3, c4, c5⟩ := T.cells
      rw [Htu.out]
      go_wp2_with fail
      refine (stamp_after _ _ _ _ _).mono ?_
      rintro e q8 ⟨rfl, hg⟩
      replace T := T.kept hg
      replace HB := below_step HB hg (by simp)
      clear hg c0 c1 c2 c3 c4 c5
      obtain ⟨c0, c1, c2, c3, c4, c5⟩ := T.cells
      cases huv : laterT y0 y1 z0 z1
      · clear huv
        go_wp2_with fail
        refine (stamp_after _ _ _ _ _).mono ?_
        rintro e q9 ⟨rfl, hg⟩
        replace T := T.kept hg
        replace HB := below_step HB hg (by simp)
        clear hg c0 c1 c2 c3 c4 c5
        obtain ⟨c0, c1, c2, c3, c4, c5⟩ := T.cells
        rw [Htu.out]
        have HG := Hgt.out Hs.out Hu.out
        rw [Htu.out] at HG
        unfold S
        go_wp2_with fail
        go_ret
        exact ⟨rfl, HB⟩
      · have Htv := Lib.hid (Htr.out Htu.out huv)
        clear huv
        go_wp2_with fail
        refine (stamp_after _ _ _ _ _).mono ?_
        rintro e q9 ⟨rfl, hg⟩
        replace T := T.kept hg
        replace HB := below_step HB hg (by simp)
        clear hg c0 c1 c2 c3 c4 c5
        obtain ⟨c0, c1, c2, c3, c4, c5⟩ := T.cells
        rw [Htv.out]
        go_wp2_with fail
        refine (stamp_after _ _ _ _ _).mono ?_
        rintro e q10 ⟨rfl, hg⟩
        replace T := T.kept hg
        replace HB := below_step HB hg (by simp)
        clear hg c0 c1 c2 c3 c4 c5
        obtain ⟨c0, c1, c2, c3, c4, c5⟩ := T.cells
        rw [Htu.out]
        have HG := Hgt.out Hs.out Hu.out
        rw [Htu.out] at HG
        unfold S
        go_wp2_with fail
        go_ret
        exact ⟨rfl, HB⟩

end Go.Proofs.Ytejjlmdpejdajaa
