/-
  Several texts of this claim in one: GhashNum, BigBro, Builder, ElemPlain, ElemNum, Elem, Add64, ElemOps, ElemMinus, ElemWide, NumReg, NumReg2, LadBit, Lift.
-/
import Derived.Test.YtmomfbkpniblgaaGreatDoorDg04
import Derived.Test.YtmomfbkpniblgaaGreatDoorDg07
import Derived.Laws.BitsAllLaws
import Derived.Lib.Builder
import Derived.Lib.AppendStr
import Derived.StillTailTactics
import Derived.Laws.Externs
namespace Go.Proofs.YtmomfbkpniblgaaGreatDoor
open Go.RowKit
set_option linter.unusedVariables false

def hi64 (n : Nat) : Nat := n / 18446744073709551616
def lo64 (n : Nat) : Nat := n % 18446744073709551616
/-- A block as the program has it. -/
def G2 (n : Nat) : Value := .agg #[.int .u64 (hi64 n : Nat), .int .u64 (lo64 n : Nat)]

theorem lo64_lt (n : Nat) : lo64 n < 18446744073709551616 := Nat.mod_lt _ (by omega)
theorem hi64_lt {n : Nat} (h : n < 2 ^ 128) : hi64 n < 18446744073709551616 := by unfold hi64; omega
theorem hl64 (n : Nat) : n = 18446744073709551616 * hi64 n + lo64 n := by unfold hi64 lo64; omega
theorem of_hl {n h l : Nat} (e : n = 18446744073709551616 * h + l) (hl : l < 18446744073709551616) : hi64 n = h ∧ lo64 n = l := by unfold hi64 lo64; omega

theorem hi64_xor (a b : Nat) : hi64 (a ^^^ b) = hi64 a ^^^ hi64 b := by
  unfold hi64
  exact Nat.xor_div_two_pow (n := 64)
theorem lo64_xor (a b : Nat) : lo64 (a ^^^ b) = lo64 a ^^^ lo64 b := by
  unfold lo64
  exact Nat.xor_mod_two_pow (n := 64)

/-- The bit that a round looks at. -/
theorem bit_hi {p i : Nat} (h : i < 64) : p / 2 ^ (127 - i) % 2 = hi64 p / 2 ^ (63 - i) % 2 := by
  unfold hi64
  rw [show (18446744073709551616 : Nat) = 2 ^ 64 from rfl, Nat.div_div_eq_div_mul, ← Nat.pow_add, show 64 + (63 - i) = 127 - i from by omega]
theorem bit_lo {p i : Nat} (h : 64 ≤ i) (h2 : i < 128) : p / 2 ^ (127 - i) % 2 = lo64 p / 2 ^ (63 - i % 64) % 2 := by
  unfold lo64
  obtain ⟨j, hj, hj2⟩ : ∃ j, 127 - i = j ∧ j < 64 := ⟨_, rfl, by omega⟩
  rw [show 63 - i % 64 = j from by omega, hj, show (18446744073709551616 : Nat) = 2 ^ j * 2 ^ (64 - j) from by rw [← Nat.pow_add, show j + (64 - j) = 64 from by omega]]
  rw [Nat.mod_mul_right_div_self]
  have h2 : 2 ∣ 2 ^ (64 - j) := ⟨2 ^ (64 - j - 1), by rw [← Nat.pow_succ']; congr 1; omega⟩
  rw [Nat.mod_mod_of_dvd _ h2]

/-- Times x, word by word. -/
theorem qx_words (q : Nat) : hi64 (qx q) = hi64 q / 2 ^^^ lo64 q % 2 * 16212958658533785600 ∧ lo64 (qx q) = lo64 q / 2 + hi64 q % 2 * 9223372036854775808 := by
  have e1 : qx q = q / 2 ^^^ q % 2 * hRed := rfl
  have hr : hRed = 18446744073709551616 * 16212958658533785600 := by decide +kernel
  have e2 : q % 2 = lo64 q % 2 := by unfold lo64; omega
  have e3 : hi64 (lo64 q % 2 * hRed) = lo64 q % 2 * 16212958658533785600 ∧ lo64 (lo64 q % 2 * hRed) = 0 := by
    rw [hr]
    refine of_hl (l := 0) ?_ (by omega)
    rw [Nat.add_zero]
    ac_rfl
  have e4 : hi64 (q / 2) = hi64 q / 2 := by unfold hi64; omega
  have e5 : lo64 (q / 2) = lo64 q / 2 + hi64 q % 2 * 9223372036854775808 := by unfold hi64 lo64; omega
  rw [e1, hi64_xor, lo64_xor, e2, e3.1, e3.2, e4, e5, Nat.xor_zero]
  exact ⟨rfl, rfl⟩

theorem or63 (l h : Nat) (hl : l < 18446744073709551616) : l / 2 ||| h * 9223372036854775808 % 18446744073709551616 = l / 2 + h % 2 * 9223372036854775808 := by
  have e : h * 9223372036854775808 % 18446744073709551616 = 2 ^ 63 * (h % 2) := by omega
  rw [e, Nat.or_comm, ← Nat.two_pow_add_eq_or_of_lt (by omega)]
  omega

/-- A block's number, its bytes. -/
theorem two128 : (2 : Nat) ^ 128 = 340282366920938463463374607431768211456 := by decide +kernel
theorem blk_lt (l : List UInt8) (h : l.length = 16) : bigN l < 2 ^ 128 := by
  have := bigN_lt l
  rw [h] at this
  rw [two128]
  simpa using this
theorem blk_words (l : List UInt8) (h : l.length = 16) : hi64 (bigN l) = bigN (l.take 8) ∧ lo64 (bigN l) = bigN (l.drop 8) :=
  of_hl (bigN_16 l h) (bigN_lt8 _ (by rw [List.length_drop]; omega))
theorem blk_text {n : Nat} (h : n < 2 ^ 128) : bigB (hi64 n) 8 ++ bigB (lo64 n) 8 = bigB n 16 := by
  rw [two128] at h
  exact (bigB_16 n h).symm
theorem blk_back (l : List UInt8) (h : l.length = 16) : bigB (bigN l) 16 = l := by
  have := bigB_bigN l
  rwa [h] at this
theorem blk_forth {n : Nat} (h : n < 2 ^ 128) : bigN (bigB n 16) = n := by
  rw [bigN_bigB]
  exact Nat.mod_eq_of_lt (by rw [two128] at h; simpa using h)

end Go.Proofs.YtmomfbkpniblgaaGreatDoor

namespace Go.Proofs.YtmomfbkpniblgaaGreatDoor
open Go.RowKit
set_option linter.unusedVariables false

def OwnBro (w : World) (base : Nat) (l : List UInt8) (e : Ending) (w' : World) : Prop := ∃ v', e = .returned v' ∧ bro w' base v' l ∧ Below base w w'

set_option maxHeartbeats 1000000 in
theorem bro_appendBig (w : World) (base : Nat) (v : Value) (l : List UInt8) (n k : Nat) (hown : bro w base v l) (hn : n < 18446744073709551616) (hk : k ≤ 8) (hl : l.length + 8 ≤ 140737488355328) (hb : base ≤ w.heap.size) :
    Calls Tryz.prog 70 #[v, .int .u64 n, .int .i64 k] w (OwnBro w base (l ++ bigB n k)) := by
  go_enter Tryz.func70, Tryz.ntmps70
  go_wp2
  go_loopw [0, 9] (fun vb vi wr => ∃ j : Nat, j ≤ k ∧ vi = .int .i64 j ∧ Hid (bro wr base vb (l ++ (bigB n k).take j)) ∧ Below base w wr) (fun _ vi _ => k - (intOf vi).toNat)
  case atStart => exact ⟨0, by omega, rfl, Lib.hid (by rw [List.take_zero, List.append_nil]; exact hown), Below.refl _ _⟩
  case round =>
    obtain ⟨j, hj, rfl, hK, HB⟩ := hrel
    clear hown
    have hlen := bigB_length n k
    have hbz := HB.size
    by_cases hlt : j < k
    · have hsn := bigB_snoc n k j hlt
      have lt : ((bigB n k).take j).length = j := by rw [List.length_take, hlen]; omega
      obtain ⟨g, cap, hv, k1, k2, k3, k4, h5, h6⟩ := id hK.out
      subst hv
      obtain ⟨v', w', hr, hb2, hg2⟩ := bro_app1 (UInt8.ofNat (n / 2 ^ (8 * (k - 1 - j)))) hK.out (by rw [List.length_append, lt]; omega) (by omega)
      rw [List.append_assoc, ← hsn] at hb2
      have HNX := Lib.hid (And.intro hb2 (HB.trans (grow_below hg2 base (by omega) (by intro b hb; cases hb; exact k1))))
      clear hsn hb2 hg2 h5 h6 hK HB k1 k2 k3 k4
      generalize (l ++ (bigB n k).take j).length = ln at *
      have e1 : 0 ≤ 8 * ((k : Int) - 1 - j) := by omega
      have e2 : 8 * ((k : Int) - 1 - j) ≤ 64 := by omega
      have hc : Value.int .u8 (((n / 2 ^ (8 * (k - 1 - j)) % 256 : Nat)) : Int) = .int .u8 ((UInt8.ofNat (n / 2 ^ (8 * (k - 1 - j)))).toNat : Int) := bcell_of _
      go_wp2_with (at_builtin; go_must (refine append_run rfl _ _ _ _ v' w' ?c1 rfl rfl rfl rfl ?_))
      case c1 =>
        rw [← hr]
        congr 2
      clear hr
      go_wp2_with fail
      go_roundw
      case rel => exact ⟨j + 1, by omega, by go_num, Lib.hid HNX.out.1, HNX.out.2⟩
      case measure => simp [intOf]; omega
    · obtain rfl : j = k := by omega
      have hfin : bro wr base u0 (l ++ bigB n j) := by
        have := hK.out
        rwa [List.take_of_length_le (by omega)] at this
      have HF := Lib.hid hfin
      clear hfin hK
      go_wp2
      go_ret
      exact ⟨_, rfl, HF.out, HB⟩

end Go.Proofs.YtmomfbkpniblgaaGreatDoor

namespace Go.Proofs.YtmomfbkpniblgaaGreatDoor
open Go.RowKit
set_option linter.unusedVariables false

theorem bld_size : (Tryz.prog.info? 169).map (·.size) = some 2 := by kernel_rfl
theorem bld_lies : liesAt Tryz.prog Tryz.prog.depth 169 (2 / Tryz.prog.cellsOf 169) 0 169 1 = true := by kernel_rfl

def Bld (B b : Nat) (l : List UInt8) (w : World) : Prop := Lib.IsBuilder 169 5 B b (Lib.byteCells l) w

set_option maxHeartbeats 1000000 in
set_option maxRecDepth 100000 in
theorem bld_used (b : Nat) (w : World) (h0 : w.cell? ⟨b, 0, none⟩ = some (.pointer (some ⟨b, 0, none⟩))) :
    Calls Tryz.prog 166 #[.pointer (some ⟨b, 0, none⟩)] w fun e w' => e = .returned (.tuple #[]) ∧ w' = w := by
  obtain ⟨j, hj, _⟩ := Option.map_eq_some_iff.1 bld_size
  go_enter Tryz.func166, Tryz.ntmps166
  go_wp2_with fail
  rw [Lib.run_neq_ptr_same w _ Tryz.underlying167 hj]
  go_wp2_with fail
  go_end0
  exact ⟨rfl, rfl⟩

set_option maxHeartbeats 1000000 in
set_option maxRecDepth 100000 in
theorem bld_fresh (b : Nat) (w : World) (h0 : w.cell? ⟨b, 0, none⟩ = some (.pointer none)) (hsh : w.shape? b = some (169, 2)) (hfz : w.frozen? ⟨b, 0, none⟩ = false) :
    Calls Tryz.prog 166 #[.pointer (some ⟨b, 0, none⟩)] w fun e w' => e = .returned (.tuple #[]) ∧ w' = w.setCell ⟨b, 0, none⟩ (.pointer (some ⟨b, 0, none⟩)) := by
  obtain ⟨j, hj, hjs⟩ := Option.map_eq_some_iff.1 bld_size
  go_enter Tryz.func166, Tryz.ntmps166
  go_wp2_with fail
  rw [Lib.run_to_unsafe w ⟨b, 0, none⟩ Tryz.underlying167 Tryz.underlying294 hj (by rw [hjs]; decide) hsh (Nat.zero_lt_succ 1)]
  simp only [Result.andThen]
  rw [Oper.upon_value]
  go_wp2_with fail
  rw [run_callFunc_extern Tryz.func214 (by kernel_rfl) (by kernel_rfl) (by kernel_rfl) (e := Extern.AbiNoEscape.same) (by kernel_rfl)]
  rw [Lib.run_noEscape]
  simp only [Result.andThen]
  rw [Oper.upon_value]
  go_wp2_with fail
  rw [Lib.run_from_unsafe w ⟨b, 0, none⟩ Tryz.underlying294 Tryz.underlying167 hj hsh bld_lies]
  simp only [Result.andThen]
  rw [Oper.upon_value]
  go_wp2_with fail
  go_end0
  exact ⟨rfl, rfl⟩

theorem bld_check (B b : Nat) (bs : List Value) (w : World) (h : Lib.IsBuilder 169 5 B b bs w) :
    Calls Tryz.prog 166 #[.pointer (some ⟨b, 0, none⟩)] w fun e w' => e = .returned (.tuple #[]) ∧ (Lib.BuilderAt 169 5 B b (.pointer (some ⟨b, 0, none⟩)) bs w' ∧ Below B w w') := by
  rcases h with h | h
  · refine (bld_fresh b w h.cell0 h.shape h.frozen0).mono ?_
    rintro e w' ⟨rfl, rfl⟩
    exact ⟨rfl, h.used _, (Below.refl B w).setCell (p := ⟨b, 0, none⟩) h.1 _⟩
  · refine (bld_used b w h.cell0).mono ?_
    rintro e w' ⟨rfl, rfl⟩
    exact ⟨rfl, h, Below.refl B _⟩

set_option maxHeartbeats 2000000 in
set_option maxRecDepth 100000 in
theorem bld_write (B b : Nat) (bs : List Value) (s : ByteArray) (w : World) (h : Lib.IsBuilder 169 5 B b bs w) (hlen : bs.length + s.size ≤ 140737488355328) (hBw : B ≤ w.heap.size) :
    Calls Tryz.prog 112 #[.pointer (some ⟨b, 0, none⟩), .string s] w fun e w' => e = .returned (.tuple #[.int .i64 s.size, .nilIface]) ∧ (Lib.BuilderAt 169 5 B b (.pointer (some ⟨b, 0, none⟩)) (bs ++ Lib.strCells s) w' ∧ Below B w w') := by
  obtain ⟨i0, hi, hz0, hz1, hz2⟩ := info_parts info_u8
  go_enter Tryz.func112, Tryz.ntmps112
  go_wp2_with fail
  refine (bld_check B b bs _ h).mono ?_
  rintro e w1 ⟨rfl, h1, hb1⟩
  obtain ⟨hB, v, hbk, hown, hne⟩ := h1
  have c0 : w1.cell? ⟨b, 0, none⟩ = some (.pointer (some ⟨b, 0, none⟩)) := by rw [Lib.cell_of_heap hbk]; rfl
  have c1 : w1.cell? ⟨b, 1, none⟩ = some v := by rw [Lib.cell_of_heap hbk]; rfl
  go_wp2_with (at_builtin; refine Lib.wpList_append_own_string _ rfl _ _ 83 9 rfl B 5 i0 Tryz.underlying83 Tryz.underlying9 hi hz0 hz1 hz2 _ _ _ rfl hown s rfl ?c3 ?c4 ?c5 ?_)
  case c3 => unfold maxLen; omega
  case c4 => omega
  case c5 => have := hb1.size; omega
  intro v' w2 hown' hgrow _
  have hlt : b < w1.heap.size := by
    rcases Nat.lt_or_ge b w1.heap.size with h' | h'
    · exact h'
    · simp [Array.getElem?_eq_none h'] at hbk
  have hb2 : w2.heap[b]? = some (.cells #[.pointer (some ⟨b, 0, none⟩), v] 169 (0, 0)) := by
    rw [hgrow.block b hlt (fun e => hne e.symm)]
    exact hbk
  have d0 : w2.cell? ⟨b, 0, none⟩ = some (.pointer (some ⟨b, 0, none⟩)) := by rw [Lib.cell_of_heap hb2]; rfl
  have d1 : w2.cell? ⟨b, 1, none⟩ = some v := by rw [Lib.cell_of_heap hb2]; rfl
  have f1 : w2.frozen? ⟨b, 1, none⟩ = false := Lib.frozen_of_heap hb2 1
  obtain ⟨ao, n', cap, rfl⟩ : ∃ ao n' cap, v' = .slice ao n' cap := by
    rcases hown'.2 with ⟨hv, _⟩ | ⟨g, cap, cur, hv, _⟩
    · exact ⟨_, _, _, hv⟩
    · exact ⟨_, _, _, hv⟩
  go_wp2_with fail
  go_ret2
  refine ⟨rfl, ?_, ?_⟩
  · exact Lib.BuilderAt.put (T := 169) (e := 5) hB hb2 (bs' := bs ++ Lib.strCells s) (by simpa [Lib.strCells_length] using hown') (by decide)
  · exact (hb1.grown hgrow (by have := hb1.size; omega) (fun k hk => (hown.lt k hk).1)).setCell (p := ⟨b, 1, none⟩) hB _

/-- What is written behind. -/
theorem bld_text (B b : Nat) (l s : List UInt8) (w : World) (h : Bld B b l w) (hlen : l.length + s.length ≤ 140737488355328) (hBw : B ≤ w.heap.size) :
    Calls Tryz.prog 112 #[.pointer (some ⟨b, 0, none⟩), S s] w fun e w' => e = .returned (.tuple #[.int .i64 s.length, .nilIface]) ∧ Bld B b (l ++ s) w' ∧ Below B w w' := by
  have hs : (ByteArray.mk s.toArray).size = s.length := by simp [ByteArray.size]
  refine (bld_write B b (Lib.byteCells l) ⟨s.toArray⟩ w h (by rw [Lib.byteCells_length, hs]; exact hlen) hBw).mono ?_
  rintro e w' ⟨rfl, h1, h2⟩
  refine ⟨by rw [hs], Or.inr ?_, h2⟩
  rw [Lib.byteCells_append]
  exact h1

/-- A new builder. -/
theorem bld_new (w : World) (B : Nat) (hB : B ≤ w.heap.size) : Bld B w.heap.size [] (w.alloc (.cells #[.pointer none, .slice none 0 0] 169)) :=
  Or.inl ⟨hB, .slice none 0 0, obj_new w _, World.ownsRow_nil _ _ _ _, nofun⟩

end Go.Proofs.YtmomfbkpniblgaaGreatDoor

namespace Go.Proofs.YtmomfbkpniblgaaGreatDoor
set_option linter.unusedVariables false

def PP : Nat := 2 ^ 255 - 19
theorem PP_eq : PP = 57896044618658097711785492504343953926634992332820282019728792003956564819949 := by decide +kernel
theorem PP_pos : 0 < PP := by rw [PP_eq]; omega

/-- The number of limbs. -/
def lval : List Nat → Nat
  | [] => 0
  | a :: l => a + 2251799813685248 * lval l

/-- Carried once along: each limb, and what goes out. -/
def carF : List Nat → Nat → List Nat × Nat
  | [], c => ([], c)
  | a :: l, c => let r := carF l ((a + c) / 2251799813685248); ((a + c) % 2251799813685248 :: r.1, r.2)

theorem carF_length : ∀ (l : List Nat) (c : Nat), (carF l c).1.length = l.length
  | [], _ => rfl
  | a :: l, c => by simp only [carF, List.length_cons, carF_length l]

theorem carF_snoc (a : Nat) : ∀ (l : List Nat) (c : Nat), carF (l ++ [a]) c = ((carF l c).1 ++ [(a + (carF l c).2) % 2251799813685248], (a + (carF l c).2) / 2251799813685248)
  | [], c => rfl
  | b :: l, c => by simp only [List.cons_append, carF, carF_snoc a l]

theorem carF_val : ∀ (l : List Nat) (c : Nat), lval (carF l c).1 + 2251799813685248 ^ l.length * (carF l c).2 = lval l + c
  | [], c => by simp [carF, lval]
  | a :: l, c => by
    have ih := carF_val l ((a + c) / 2251799813685248)
    simp only [carF, lval, List.length_cons]
    have e : 2251799813685248 ^ (l.length + 1) * (carF l ((a + c) / 2251799813685248)).2 = 2251799813685248 * (2251799813685248 ^ l.length * (carF l ((a + c) / 2251799813685248)).2) := by
      rw [Nat.pow_succ, Nat.mul_comm (2251799813685248 ^ l.length), Nat.mul_assoc]
    rw [e]
    generalize 2251799813685248 ^ l.length * (carF l ((a + c) / 2251799813685248)).2 = x at *
    omega

theorem carF_small : ∀ (l : List Nat) (c : Nat), ∀ x ∈ (carF l c).1, x < 2251799813685248
  | [], _, x, h => by simp [carF] at h
  | a :: l, c, x, h => by
    simp only [carF, List.mem_cons] at h
    rcases h with rfl | h
    · exact Nat.mod_lt _ (by omega)
    · exact carF_small l _ x h

/-- What goes out of each step is small. -/
theorem carF_out (M : Nat) : ∀ (l : List Nat) (c : Nat), (∀ x ∈ l, x + M < 2251799813685248 * (M + 1)) → c ≤ M → (carF l c).2 ≤ M
  | [], c, _, hc => hc
  | a :: l, c, h, hc => by
    simp only [carF]
    refine carF_out M l _ (fun x hx => h x (by simp [hx])) ?_
    have := h a (by simp)
    have h2 : a + c < 2251799813685248 * (M + 1) := by omega
    have := Nat.div_lt_of_lt_mul h2
    omega

/-- Once round. -/
def car1 (l : List Nat) : List Nat := (carF l 0).1.set 0 ((carF l 0).1.getD 0 0 + 19 * (carF l 0).2)
def carL (l : List Nat) : List Nat := car1 (car1 l)

/-- Limbs as results have them. -/
def Ok5 (l : List Nat) : Prop := ∃ a t, l = a :: t ∧ t.length = 4 ∧ a ≤ 2251799813685266 ∧ ∀ x ∈ t, x < 2251799813685248

theorem Ok5.length {l : List Nat} (h : Ok5 l) : l.length = 5 := by
  obtain ⟨a, t, rfl, ht, _⟩ := h
  simp [ht]
theorem Ok5.le {l : List Nat} (h : Ok5 l) : ∀ x ∈ l, x ≤ 2251799813685266 := by
  obtain ⟨a, t, rfl, ht, ha, h⟩ := h
  intro x hx
  rcases List.mem_cons.1 hx with rfl | hx
  · exact ha
  · have := h x hx; omega

theorem lval_set0 (l : List Nat) (h : 0 < l.length) (x : Nat) : lval (l.set 0 (l.getD 0 0 + x)) = lval l + x := by
  match l, h with
  | a :: l, _ => simp only [List.set_cons_zero, lval, List.getD_cons_zero]; omega

theorem two255 : (2251799813685248 : Nat) ^ 5 = PP + 19 := by decide +kernel

theorem car1_length (l : List Nat) : (car1 l).length = l.length := by unfold car1; rw [List.length_set, carF_length]
theorem carL_length (l : List Nat) : (carL l).length = l.length := by unfold carL; rw [car1_length, car1_length]

theorem car1_val (l : List Nat) (h : l.length = 5) : lval (car1 l) % PP = lval l % PP := by
  have e := carF_val l 0
  rw [h, two255] at e
  simp only [Nat.add_zero] at e
  unfold car1
  rw [lval_set0 _ (by rw [carF_length]; omega)]
  rw [← e, Nat.add_mul]
  rw [show lval (carF l 0).1 + (PP * (carF l 0).2 + 19 * (carF l 0).2) = lval (carF l 0).1 + 19 * (carF l 0).2 + PP * (carF l 0).2 from by omega, Nat.add_mul_mod_self_left]

theorem carL_val (l : List Nat) (h : l.length = 5) : lval (carL l) % PP = lval l % PP := by
  unfold carL
  rw [car1_val _ (by rw [car1_length, h]), car1_val _ h]

theorem car1_cons (l : List Nat) (M : Nat) (hl : l.length = 5) (h : ∀ x ∈ l, x + M < 2251799813685248 * (M + 1)) : ∃ a t, car1 l = a :: t ∧ t.length = 4 ∧ a < 2251799813685248 + 19 * M ∧ ∀ x ∈ t, x < 2251799813685248 := by
  have hc := carF_out M l 0 h (by omega)
  have hs := carF_small l 0
  have hn := carF_length l 0
  unfold car1
  generalize carF l 0 = r at *
  obtain ⟨r1, r2⟩ := r
  simp only at hc hs hn ⊢
  rw [hl] at hn
  match r1, hn with
  | a :: t, hn =>
    refine ⟨_, _, rfl, by simp at hn; omega, ?_, fun x hx => hs x (by simp [hx])⟩
    have := hs a (by simp)
    simp only [List.getD_cons_zero]
    omega

theorem carL_ok (l : List Nat) (h : l.length = 5) (hb : ∀ x ∈ l, x ≤ 9223372036854775808) : Ok5 (carL l) := by
  obtain ⟨a, t, e, ht, ha, hs⟩ := car1_cons l 4096 h (fun x hx => by have := hb x hx; omega)
  obtain ⟨b, u, e2, hu, hb2, hs2⟩ := car1_cons (car1 l) 1 (by rw [car1_length, h]) (fun x hx => by
    rw [e] at hx
    rcases List.mem_cons.1 hx with rfl | hx
    · omega
    · have := hs x hx; omega)
  exact ⟨b, u, e2, hu, by omega, hs2⟩

/-- Whole: each limb in its bits. -/
def Full (l : List Nat) : Prop := l.length = 5 ∧ ∀ x ∈ l, x < 2251799813685248

theorem lval_lt : ∀ l : List Nat, (∀ x ∈ l, x < 2251799813685248) → lval l < 2251799813685248 ^ l.length
  | [], _ => by simp [lval]
  | a :: l, h => by
    have ih := lval_lt l (fun x hx => h x (by simp [hx]))
    have := h a (by simp)
    simp only [lval, List.length_cons, Nat.pow_succ]
    generalize 2251799813685248 ^ l.length = z at *
    omega

theorem carF_full : ∀ l : List Nat, (∀ x ∈ l, x < 2251799813685248) → carF l 0 = (l, 0)
  | [], _ => rfl
  | a :: l, h => by
    have := h a (by simp)
    simp only [carF, Nat.add_zero]
    rw [Nat.div_eq_of_lt this, Nat.mod_eq_of_lt this, carF_full l (fun x hx => h x (by simp [hx]))]

theorem car1_full {l : List Nat} (h : Full l) : car1 l = l := by
  unfold car1
  rw [carF_full l h.2]
  match l, h.1 with
  | a :: l, _ => rfl

theorem car1_ok {l : List Nat} (h : Ok5 l) : Full (car1 l) := by
  have hl := h.length
  have hc := carF_out 1 l 0 (fun x hx => by have := h.le x hx; omega) (by omega)
  have hs := carF_small l 0
  have hn := carF_length l 0
  have hv := carF_val l 0
  rw [hl, two255] at hv
  simp only [Nat.add_zero] at hv
  obtain ⟨a, t, rfl, ht, ha, hts⟩ := h
  have hlt := lval_lt t hts
  rw [ht] at hlt
  refine ⟨by rw [car1_length, hl], ?_⟩
  unfold car1
  generalize carF (a :: t) 0 = r at *
  obtain ⟨r1, r2⟩ := r
  simp only at hc hs hn hv ⊢
  rw [hl] at hn
  match r1, hn with
  | b :: u, hn =>
    intro x hx
    simp only [List.set_cons_zero, List.getD_cons_zero] at hx
    rcases List.mem_cons.1 hx with rfl | hx
    · have hb := hs b (by simp)
      rcases (show r2 = 0 ∨ r2 = 1 by omega) with e | e
      · subst e; omega
      · subst e
        simp only [lval] at hv
        rw [PP_eq] at hv
        simp only [Nat.reducePow] at hlt
        omega
    · exact hs x (by simp [hx])

theorem full_twice (l : List Nat) (h : l.length = 5) (hb : ∀ x ∈ l, x ≤ 9223372036854775808) : Full (carL (carL l)) := by
  have h1 := car1_ok (carL_ok l h hb)
  have : carL (carL l) = car1 (carL l) := car1_full h1
  rw [this]
  exact h1

theorem full_lt {l : List Nat} (h : Full l) : lval l < PP + 19 := by
  have := lval_lt l h.2
  rw [h.1, two255] at this
  exact this

/-- What the text is made of: the least number. -/
def leastL (l : List Nat) : List Nat := (carF (l.set 0 (l.getD 0 0 + 19 * (carF l 19).2)) 0).1

theorem leastL_ok {l : List Nat} (h : Full l) : Full (leastL l) ∧ lval (leastL l) = lval l % PP := by
  have hV := full_lt h
  have hl := h.1
  have h1 := carF_val l 19
  have s1 := lval_lt _ (carF_small l 19)
  rw [carF_length, hl, two255] at s1
  rw [hl, two255] at h1
  have hq : (carF l 19).2 ≤ 1 := by
    have hp := PP_pos
    rcases Nat.lt_or_ge (carF l 19).2 2 with q | q
    · omega
    · have := Nat.mul_le_mul_left (PP + 19) q
      rw [PP_eq] at *
      omega
  have hF : Full (leastL l) := by
    refine ⟨by unfold leastL; rw [carF_length, List.length_set, hl], ?_⟩
    unfold leastL
    exact carF_small _ _
  refine ⟨hF, ?_⟩
  have h2 := carF_val (l.set 0 (l.getD 0 0 + 19 * (carF l 19).2)) 0
  rw [List.length_set, hl, two255, lval_set0 l (by omega)] at h2
  have h3 := full_lt hF
  unfold leastL at h3 ⊢
  generalize (carF (l.set 0 (l.getD 0 0 + 19 * (carF l 19).2)) 0) = r at *
  obtain ⟨r1, r2⟩ := r
  simp only at *
  generalize lval (carF l 19).1 = A at *
  generalize (carF l 19).2 = q at *
  generalize lval r1 = R at *
  generalize lval l = V at *
  clear hF h hl
  have hr2 : r2 ≤ 1 := by
    rcases Nat.lt_or_ge r2 2 with z | z
    · omega
    · have := Nat.mul_le_mul_left (PP + 19) z
      rw [PP_eq] at *
      omega
  rw [PP_eq] at *
  rcases (show q = 0 ∨ q = 1 by omega) with rfl | rfl
  · rcases (show r2 = 0 ∨ r2 = 1 by omega) with rfl | rfl
    · omega
    · omega
  · rcases (show r2 = 0 ∨ r2 = 1 by omega) with rfl | rfl
    · omega
    · omega

end Go.Proofs.YtmomfbkpniblgaaGreatDoor

namespace Go.Proofs.YtmomfbkpniblgaaGreatDoor
set_option linter.unusedVariables false

theorem leB_app (k : Nat) : ∀ (j n : Nat), leB n (j + k) = leB n j ++ leB (n / 256 ^ j) k
  | 0, n => by rw [Nat.zero_add, Nat.pow_zero, Nat.div_one]; rfl
  | j + 1, n => by
    rw [show j + 1 + k = (j + k) + 1 from by omega]
    simp only [leB, List.cons_append]
    rw [leB_app k j (n / 256), Nat.div_div_eq_div_mul, Nat.pow_succ, Nat.mul_comm 256]
theorem leB_mod (n k : Nat) : leB (n % 256 ^ k) k = leB n k := by
  have h1 := leN_leB n k
  have h2 := leB_leN (leB n k)
  rw [leB_length, h1] at h2
  exact h2

theorem or_sum (a b k : Nat) (ha : a < 2 ^ k) (hk : k ≤ 64) : a ||| b * 2 ^ k % 18446744073709551616 = a + b * 2 ^ k % 18446744073709551616 := by
  have e : (18446744073709551616 : Nat) = 2 ^ (64 - k) * 2 ^ k := by rw [← Nat.pow_add, show 64 - k + k = 64 from by omega]
  rw [e, Nat.mul_mod_mul_right, Nat.or_comm, Nat.mul_comm, ← Nat.two_pow_add_eq_or_of_lt ha, Nat.add_comm]

/-- The words that limbs are packed into. -/
def pk0 (a b : Nat) : Nat := a ||| b * 2251799813685248 % 18446744073709551616
def pk1 (b c : Nat) : Nat := b / 8192 ||| c * 274877906944 % 18446744073709551616
def pk2 (c d : Nat) : Nat := c / 67108864 ||| d * 33554432 % 18446744073709551616
def pk3 (d e : Nat) : Nat := d / 549755813888 ||| e * 4096 % 18446744073709551616

theorem pk_text (a b c d e : Nat) (ha : a < 2251799813685248) (hb : b < 2251799813685248) (hc : c < 2251799813685248) (hd : d < 2251799813685248) (he : e < 2251799813685248) :
    leB (pk0 a b) 8 ++ leB (pk1 b c) 8 ++ leB (pk2 c d) 8 ++ leB (pk3 d e) 8 = leB (lval [a, b, c, d, e]) 32 := by
  have h0 : pk0 a b = a + b * 2251799813685248 % 18446744073709551616 := or_sum a b 51 (by omega) (by omega)
  have h1 : pk1 b c = b / 8192 + c * 274877906944 % 18446744073709551616 := or_sum (b / 8192) c 38 (by omega) (by omega)
  have h2 : pk2 c d = c / 67108864 + d * 33554432 % 18446744073709551616 := or_sum (c / 67108864) d 25 (by omega) (by omega)
  have h3 : pk3 d e = d / 549755813888 + e * 4096 % 18446744073709551616 := or_sum (d / 549755813888) e 12 (by omega) (by omega)
  rw [h0, h1, h2, h3]
  clear h0 h1 h2 h3
  have hv : lval [a, b, c, d, e] = a + 2251799813685248 * (b + 2251799813685248 * (c + 2251799813685248 * (d + 2251799813685248 * e))) := by simp [lval]
  rw [hv, show (32 : Nat) = 8 + (8 + (8 + 8)) from rfl, leB_app, leB_app, leB_app]
  simp only [Nat.reducePow, Nat.div_div_eq_div_mul, Nat.reduceMul]
  have e0 : ∀ n m : Nat, n % 18446744073709551616 = m % 18446744073709551616 → leB n 8 = leB m 8 := fun n m h => by
    have h1 := leB_mod n 8
    have h2 := leB_mod m 8
    simp only [Nat.reducePow] at h1 h2
    rw [← h1, ← h2, h]
  rw [List.append_assoc, List.append_assoc]
  congr 1
  · exact e0 _ _ (by omega)
  congr 1
  · exact e0 _ _ (by omega)
  congr 1
  · exact e0 _ _ (by omega)
  · exact e0 _ _ (by omega)

/-- The limbs that four words are read into. -/
def rd1 (u v : Nat) : Nat := (u / 2251799813685248 ||| v * 8192 % 18446744073709551616) % 2251799813685248
def rd2 (u v : Nat) : Nat := (u / 274877906944 ||| v * 67108864 % 18446744073709551616) % 2251799813685248
def rd3 (u v : Nat) : Nat := (u / 33554432 ||| v * 549755813888 % 18446744073709551616) % 2251799813685248
def rdL (w0 w1 w2 w3 : Nat) : List Nat := [w0 % 2251799813685248 + 19 * (w3 / 9223372036854775808), rd1 w0 w1, rd2 w1 w2, rd3 w2 w3, w3 / 4096 % 2251799813685248]

theorem rdL_val (w0 w1 w2 w3 : Nat) (h0 : w0 < 18446744073709551616) (h1 : w1 < 18446744073709551616) (h2 : w2 < 18446744073709551616) (h3 : w3 < 18446744073709551616) :
    lval (rdL w0 w1 w2 w3) % PP = (w0 + 18446744073709551616 * (w1 + 18446744073709551616 * (w2 + 18446744073709551616 * w3))) % PP ∧ ∀ x ∈ rdL w0 w1 w2 w3, x ≤ 9223372036854775808 := by
  have e1 : rd1 w0 w1 = (w0 / 2251799813685248 + w1 * 8192 % 18446744073709551616) % 2251799813685248 := by unfold rd1; rw [← or_sum _ w1 13 (by omega) (by omega)]
  have e2 : rd2 w1 w2 = (w1 / 274877906944 + w2 * 67108864 % 18446744073709551616) % 2251799813685248 := by unfold rd2; rw [← or_sum _ w2 26 (by omega) (by omega)]
  have e3 : rd3 w2 w3 = (w2 / 33554432 + w3 * 549755813888 % 18446744073709551616) % 2251799813685248 := by unfold rd3; rw [← or_sum _ w3 39 (by omega) (by omega)]
  unfold rdL
  rw [e1, e2, e3]
  clear e1 e2 e3
  constructor
  · simp only [lval, Nat.mul_zero, Nat.add_zero]
    have key : w0 + 18446744073709551616 * (w1 + 18446744073709551616 * (w2 + 18446744073709551616 * w3)) = w0 % 2251799813685248 + 19 * (w3 / 9223372036854775808) + 2251799813685248 * ((w0 / 2251799813685248 + w1 * 8192 % 18446744073709551616) % 2251799813685248 + 2251799813685248 * ((w1 / 274877906944 + w2 * 67108864 % 18446744073709551616) % 2251799813685248 + 2251799813685248 * ((w2 / 33554432 + w3 * 549755813888 % 18446744073709551616) % 2251799813685248 + 2251799813685248 * (w3 / 4096 % 2251799813685248)))) + 57896044618658097711785492504343953926634992332820282019728792003956564819949 * (w3 / 9223372036854775808) := by omega
    rw [key, PP_eq, Nat.add_mul_mod_self_left]
  · intro x hx
    simp only [List.mem_cons, List.not_mem_nil, or_false] at hx
    omega

/-- Sums. -/
def plusL (a b : List Nat) : List Nat := List.zipWith (· + ·) a b
theorem plusL_val : ∀ a b : List Nat, a.length = b.length → lval (plusL a b) = lval a + lval b
  | [], [], _ => rfl
  | x :: a, y :: b, h => by
    have ih := plusL_val a b (by simpa using h)
    unfold plusL at ih ⊢
    simp only [List.zipWith_cons_cons, lval, ih]
    omega

/-- Differences: each limb and four times the greatest, less the other one; the first 72 less. -/
def minusL (a b : List Nat) : List Nat := (List.range 5).map fun i => a.getD i 0 + 9007199254740988 - b.getD i 0 - (if i = 0 then 72 else 0)
theorem minusL_val (a0 a1 a2 a3 a4 b0 b1 b2 b3 b4 : Nat) (h0 : b0 ≤ 2251799813685266) (h1 : b1 ≤ 2251799813685266) (h2 : b2 ≤ 2251799813685266) (h3 : b3 ≤ 2251799813685266) (h4 : b4 ≤ 2251799813685266) :
    lval (minusL [a0, a1, a2, a3, a4] [b0, b1, b2, b3, b4]) + lval [b0, b1, b2, b3, b4] = lval [a0, a1, a2, a3, a4] + 4 * PP := by
  have e : minusL [a0, a1, a2, a3, a4] [b0, b1, b2, b3, b4] = [a0 + 9007199254740988 - b0 - 72, a1 + 9007199254740988 - b1 - 0, a2 + 9007199254740988 - b2 - 0, a3 + 9007199254740988 - b3 - 0, a4 + 9007199254740988 - b4 - 0] := rfl
  rw [e, PP_eq]
  simp only [lval, Nat.mul_zero, Nat.add_zero, Nat.sub_zero]
  omega

/-- One product added. -/
def tmS (a b : List Nat) (i k : Nat) (W : List Nat) : List Nat :=
  W.set ((i + k) % 5) (W.getD ((i + k) % 5) 0 + a.getD i 0 * (if 5 ≤ i + k then 19 * b.getD k 0 else b.getD k 0))
def tmI (a b : List Nat) (i : Nat) (W : List Nat) : Nat → List Nat
  | 0 => W
  | k + 1 => tmS a b i k (tmI a b i W k)
def tmO (a b : List Nat) : Nat → List Nat
  | 0 => [0, 0, 0, 0, 0]
  | i + 1 => tmI a b i (tmO a b i) 5

theorem tmS_length (a b : List Nat) (i k : Nat) (W : List Nat) : (tmS a b i k W).length = W.length := by unfold tmS; rw [List.length_set]
theorem tmI_length (a b : List Nat) (i : Nat) (W : List Nat) : ∀ k, (tmI a b i W k).length = W.length
  | 0 => rfl
  | k + 1 => by rw [tmI, tmS_length, tmI_length a b i W k]
theorem tmO_length (a b : List Nat) : ∀ i, (tmO a b i).length = 5
  | 0 => rfl
  | i + 1 => by rw [tmO, tmI_length, tmO_length a b i]

theorem getD_le {l : List Nat} {M : Nat} (h : ∀ x ∈ l, x ≤ M) (i : Nat) : l.getD i 0 ≤ M := by
  rw [List.getD_eq_getElem?_getD]
  by_cases q : i < l.length
  · rw [List.getElem?_eq_getElem q]; exact h _ (List.getElem_mem q)
  · rw [List.getElem?_eq_none (by omega)]; exact Nat.zero_le _

theorem prod_le {a b : List Nat} (ha : ∀ x ∈ a, x ≤ 2251799813685266) (hb : ∀ x ∈ b, x ≤ 2251799813685266) (i k : Nat) : a.getD i 0 * (if 5 ≤ i + k then 19 * b.getD k 0 else b.getD k 0) ≤ 100000000000000000000000000000000 := by
  have h1 := getD_le ha i
  have h2 := getD_le hb k
  have h3 : (if 5 ≤ i + k then 19 * b.getD k 0 else b.getD k 0) ≤ 19 * 2251799813685266 := by split <;> omega
  exact Nat.le_trans (Nat.mul_le_mul h1 h3) (by decide)

theorem tmS_le {a b W : List Nat} {M : Nat} (ha : ∀ x ∈ a, x ≤ 2251799813685266) (hb : ∀ x ∈ b, x ≤ 2251799813685266) (hW : ∀ x ∈ W, x ≤ M) (i k : Nat) : ∀ x ∈ tmS a b i k W, x ≤ M + 100000000000000000000000000000000 := by
  intro x hx
  have hp := prod_le ha hb i k
  have hw := getD_le hW ((i + k) % 5)
  unfold tmS at hx
  rcases List.mem_or_eq_of_mem_set hx with h | h
  · have := hW x h; omega
  · subst h; omega
theorem tmI_le {a b W : List Nat} {M : Nat} (ha : ∀ x ∈ a, x ≤ 2251799813685266) (hb : ∀ x ∈ b, x ≤ 2251799813685266) (hW : ∀ x ∈ W, x ≤ M) (i : Nat) : ∀ k, ∀ x ∈ tmI a b i W k, x ≤ M + k * 100000000000000000000000000000000
  | 0 => fun x hx => by have := hW x hx; omega
  | k + 1 => fun x hx => by have := tmS_le ha hb (tmI_le ha hb hW i k) i k x hx; omega
theorem tmO_le {a b : List Nat} (ha : ∀ x ∈ a, x ≤ 2251799813685266) (hb : ∀ x ∈ b, x ≤ 2251799813685266) : ∀ i, ∀ x ∈ tmO a b i, x ≤ i * 500000000000000000000000000000000
  | 0 => fun x hx => by simp [tmO] at hx; omega
  | i + 1 => fun x hx => by have := tmI_le ha hb (tmO_le ha hb i) i 5 x hx; omega

set_option maxHeartbeats 2000000 in
theorem mul5n (a0 a1 a2 a3 a4 b0 b1 b2 b3 b4 : Nat) :
  (a0 + 2251799813685248*a1 + 2251799813685248^2*a2 + 2251799813685248^3*a3 + 2251799813685248^4*a4) * (b0 + 2251799813685248*b1 + 2251799813685248^2*b2 + 2251799813685248^3*b3 + 2251799813685248^4*b4) =
   (a0*b0 + 19*(a1*b4 + a2*b3 + a3*b2 + a4*b1)) + 2251799813685248*(a0*b1+a1*b0 + 19*(a2*b4+a3*b3+a4*b2)) + 2251799813685248^2*(a0*b2+a1*b1+a2*b0+19*(a3*b4+a4*b3)) + 2251799813685248^3*(a0*b3+a1*b2+a2*b1+a3*b0+19*(a4*b4)) + 2251799813685248^4*(a0*b4+a1*b3+a2*b2+a3*b1+a4*b0)
   + (57896044618658097711785492504343953926634992332820282019728792003956564819949)*((a1*b4 + a2*b3 + a3*b2 + a4*b1) + 2251799813685248*(a2*b4+a3*b3+a4*b2) + 2251799813685248^2*(a3*b4+a4*b3) + 2251799813685248^3*(a4*b4)) := by grind

theorem lval5 (a0 a1 a2 a3 a4 : Nat) : lval [a0, a1, a2, a3, a4] = a0 + 2251799813685248*a1 + 2251799813685248^2*a2 + 2251799813685248^3*a3 + 2251799813685248^4*a4 := by
  simp only [lval, Nat.reducePow]; omega

set_option maxHeartbeats 1000000 in
theorem tmO_val (a0 a1 a2 a3 a4 b0 b1 b2 b3 b4 : Nat) : lval (tmO [a0, a1, a2, a3, a4] [b0, b1, b2, b3, b4] 5) % PP = (lval [a0, a1, a2, a3, a4] * lval [b0, b1, b2, b3, b4]) % PP := by
  have e : tmO [a0, a1, a2, a3, a4] [b0, b1, b2, b3, b4] 5 = [
      0 + a0 * b0 + a1 * (19 * b4) + a2 * (19 * b3) + a3 * (19 * b2) + a4 * (19 * b1),
      0 + a0 * b1 + a1 * b0 + a2 * (19 * b4) + a3 * (19 * b3) + a4 * (19 * b2),
      0 + a0 * b2 + a1 * b1 + a2 * b0 + a3 * (19 * b4) + a4 * (19 * b3),
      0 + a0 * b3 + a1 * b2 + a2 * b1 + a3 * b0 + a4 * (19 * b4),
      0 + a0 * b4 + a1 * b3 + a2 * b2 + a3 * b1 + a4 * b0] := by kernel_rfl
  have k : lval [a0, a1, a2, a3, a4] * lval [b0, b1, b2, b3, b4] = ((a0*b0 + 19*(a1*b4 + a2*b3 + a3*b2 + a4*b1)) + 2251799813685248*(a0*b1+a1*b0 + 19*(a2*b4+a3*b3+a4*b2)) + 2251799813685248^2*(a0*b2+a1*b1+a2*b0+19*(a3*b4+a4*b3)) + 2251799813685248^3*(a0*b3+a1*b2+a2*b1+a3*b0+19*(a4*b4)) + 2251799813685248^4*(a0*b4+a1*b3+a2*b2+a3*b1+a4*b0)) + PP * ((a1*b4 + a2*b3 + a3*b2 + a4*b1) + 2251799813685248*(a2*b4+a3*b3+a4*b2) + 2251799813685248^2*(a3*b4+a4*b3) + 2251799813685248^3*(a4*b4)) := by
    rw [lval5 a0, lval5 b0, mul5n, PP_eq]
  have h : lval (tmO [a0, a1, a2, a3, a4] [b0, b1, b2, b3, b4] 5) = (a0*b0 + 19*(a1*b4 + a2*b3 + a3*b2 + a4*b1)) + 2251799813685248*(a0*b1+a1*b0 + 19*(a2*b4+a3*b3+a4*b2)) + 2251799813685248^2*(a0*b2+a1*b1+a2*b0+19*(a3*b4+a4*b3)) + 2251799813685248^3*(a0*b3+a1*b2+a2*b1+a3*b0+19*(a4*b4)) + 2251799813685248^4*(a0*b4+a1*b3+a2*b2+a3*b1+a4*b0) := by
    rw [e, lval5]
    clear e k
    simp only [Nat.mul_left_comm _ 19 _]
    generalize a0 * b0 = p00
    generalize a0 * b1 = p01
    generalize a0 * b2 = p02
    generalize a0 * b3 = p03
    generalize a0 * b4 = p04
    generalize a1 * b0 = p10
    generalize a1 * b1 = p11
    generalize a1 * b2 = p12
    generalize a1 * b3 = p13
    generalize a1 * b4 = p14
    generalize a2 * b0 = p20
    generalize a2 * b1 = p21
    generalize a2 * b2 = p22
    generalize a2 * b3 = p23
    generalize a2 * b4 = p24
    generalize a3 * b0 = p30
    generalize a3 * b1 = p31
    generalize a3 * b2 = p32
    generalize a3 * b3 = p33
    generalize a3 * b4 = p34
    generalize a4 * b0 = p40
    generalize a4 * b1 = p41
    generalize a4 * b2 = p42
    generalize a4 * b3 = p43
    generalize a4 * b4 = p44
    simp only [Nat.reducePow]
    omega
  rw [h, k]
  exact (Nat.add_mul_mod_self_left _ _ _).symm

/-- The product, carried. -/
def tmC (W : List Nat) : List Nat := let r := carF W 0; (r.1.set 0 (r.1.getD 0 0 + 19 * (r.2 % 2251799813685248))).set 1 (r.1.getD 1 0 + 19 * (r.2 / 2251799813685248))

theorem tmC_val (W : List Nat) (h : W.length = 5) : lval (tmC W) % PP = lval W % PP := by
  have e := carF_val W 0
  have hn := carF_length W 0
  rw [h, two255] at e
  simp only [Nat.add_zero] at e
  unfold tmC
  generalize carF W 0 = r at *
  obtain ⟨r1, r2⟩ := r
  simp only at *
  rw [h] at hn
  match r1, hn with
  | [x0, x1, x2, x3, x4], _ =>
    rw [← e]
    simp only [List.set_cons_zero, List.set_cons_succ, List.getD_cons_zero, List.getD_cons_succ, lval, Nat.mul_zero, Nat.add_zero]
    have k1 : x0 + 19 * (r2 % 2251799813685248) + 2251799813685248 * (x1 + 19 * (r2 / 2251799813685248) + 2251799813685248 * (x2 + 2251799813685248 * (x3 + 2251799813685248 * x4))) = x0 + 2251799813685248 * (x1 + 2251799813685248 * (x2 + 2251799813685248 * (x3 + 2251799813685248 * x4))) + 19 * r2 := by omega
    rw [k1, Nat.add_mul, ← Nat.add_assoc]
    generalize x0 + 2251799813685248 * (x1 + 2251799813685248 * (x2 + 2251799813685248 * (x3 + 2251799813685248 * x4))) = y
    rw [show y + PP * r2 + 19 * r2 = (y + 19 * r2) + PP * r2 from by omega, Nat.add_mul_mod_self_left]

end Go.Proofs.YtmomfbkpniblgaaGreatDoor

namespace Go.Proofs.YtmomfbkpniblgaaGreatDoor
open Go.RowKit
set_option linter.unusedVariables false

def c64 (n : Nat) : Value := .int .u64 (n : Int)
def N5 (l : List Nat) : Value := .agg (l.map c64).toArray
/-- The block of a number. -/
def NB (w : World) (B : Nat) (l : List Nat) : Prop := Blk w B 144 (l.map c64)
/-- A result: limbs as results have them, of a number that leaves what v leaves. -/
def NumIs (v : Nat) (w : World) (e : Ending) (w' : World) : Prop := ∃ l, e = .returned (N5 l) ∧ Ok5 l ∧ lval l % PP = v % PP ∧ w.grownBy w' none

theorem five {b : List Nat} (h : b.length = 5) : ∃ a0 a1 a2 a3 a4, b = [a0, a1, a2, a3, a4] := by
  match b, h with
  | [a0, a1, a2, a3, a4], _ => exact ⟨a0, a1, a2, a3, a4, rfl⟩

theorem NB.cell {w : World} {B : Nat} {l : List Nat} (h : NB w B l) (i : Nat) (hi : i < l.length) : w.cell? ⟨B, i, none⟩ = some (.int .u64 (l[i] : Nat)) := by
  rw [Blk.cell h]
  simp [c64, hi]
theorem NB.frozen {w : World} {B : Nat} {l : List Nat} (h : NB w B l) (i : Nat) : w.frozen? ⟨B, i, none⟩ = false := Blk.frozen h i
theorem NB.set {w : World} {B : Nat} {l : List Nat} (h : NB w B l) (i n : Nat) : NB (w.setCell ⟨B, i, none⟩ (.int .u64 (n : Int))) B (l.set i n) := by
  have := Blk.set h i (c64 n)
  unfold NB
  rw [List.map_set]
  exact this
theorem NB.five {w : World} {B a0 a1 a2 a3 a4 : Nat} (h : NB w B [a0, a1, a2, a3, a4]) :
    (w.cell? ⟨B, 0, none⟩ = some (.int .u64 (a0 : Int)) ∧ w.cell? ⟨B, 1, none⟩ = some (.int .u64 (a1 : Int)) ∧ w.cell? ⟨B, 2, none⟩ = some (.int .u64 (a2 : Int)) ∧ w.cell? ⟨B, 3, none⟩ = some (.int .u64 (a3 : Int)) ∧ w.cell? ⟨B, 4, none⟩ = some (.int .u64 (a4 : Int))) ∧
    w.frozen? ⟨B, 0, none⟩ = false ∧ w.frozen? ⟨B, 1, none⟩ = false ∧ w.frozen? ⟨B, 2, none⟩ = false ∧ w.frozen? ⟨B, 3, none⟩ = false ∧ w.frozen? ⟨B, 4, none⟩ = false :=
  ⟨⟨h.cell 0 (by simp), h.cell 1 (by simp), h.cell 2 (by simp), h.cell 3 (by simp), h.cell 4 (by simp)⟩, h.frozen 0, h.frozen 1, h.frozen 2, h.frozen 3, h.frozen 4⟩

theorem mask51 (c : Nat) (hc : c < 18446744073709551616) : bits .and .u64 (c : Int) 2251799813685247 = ((c % 2251799813685248 : Nat) : Int) := by
  have := u64_and_nat c 2251799813685247 hc (by omega)
  rw [show ((2251799813685247 : Nat) : Int) = 2251799813685247 from rfl] at this
  rw [this]
  congr 1
  exact Nat.and_two_pow_sub_one_eq_mod c 51

theorem grow5 {a w : World} {B : Nat} {r : Option Nat} (h : a.grownBy w r) (hB : a.heap.size ≤ B) (v0 v1 v2 v3 v4 : Value) : a.grownBy (((((w.setCell ⟨B, 0, none⟩ v0).setCell ⟨B, 1, none⟩ v1).setCell ⟨B, 2, none⟩ v2).setCell ⟨B, 3, none⟩ v3).setCell ⟨B, 4, none⟩ v4) r :=
  grow_setCell_new (grow_setCell_new (grow_setCell_new (grow_setCell_new (grow_setCell_new h _ hB _) _ hB _) _ hB _) _ hB _) _ hB _

/-- The limbs when i are carried. -/
def carI (L : List Nat) (i : Nat) : List Nat := (carF (L.take i) 0).1 ++ L.drop i
theorem carI_length (L : List Nat) (i : Nat) : (carI L i).length = L.length := by
  unfold carI
  rw [List.length_append, carF_length, List.length_take, List.length_drop]
  omega
theorem carI_at (L : List Nat) (i : Nat) (hi : i < L.length) : (carI L i)[i]'(by rw [carI_length]; exact hi) = L[i] := by
  have : (carF (L.take i) 0).1.length = i := by rw [carF_length, List.length_take]; omega
  unfold carI
  rw [List.getElem_append_right (by omega), List.getElem_drop]
  congr 1
  omega
theorem carI_next (L : List Nat) (i : Nat) (hi : i < L.length) : (carI L i).set i ((L[i] + (carF (L.take i) 0).2) % 2251799813685248) = carI L (i + 1) ∧ (carF (L.take (i + 1)) 0).2 = (L[i] + (carF (L.take i) 0).2) / 2251799813685248 := by
  have hl : (carF (L.take i) 0).1.length = i := by rw [carF_length, List.length_take]; omega
  have e : L.drop i = L[i] :: L.drop (i + 1) := List.drop_eq_getElem_cons hi
  have et : L.take (i + 1) = L.take i ++ [L[i]] := List.take_succ_eq_append_getElem hi
  unfold carI
  rw [et, carF_snoc, List.set_append_right _ _ (by omega), hl, Nat.sub_self, e, List.set_cons_zero]
  exact ⟨by rw [List.append_assoc]; rfl, rfl⟩

def carR (l : List Nat) : Nat → List Nat
  | 0 => l
  | r + 1 => car1 (carR l r)

theorem car1_le (l : List Nat) (hl : l.length = 5) (h : ∀ x ∈ l, x ≤ 9223372036854775808) : ∀ x ∈ car1 l, x ≤ 9223372036854775808 := by
  obtain ⟨a, t, e, ht, ha, hs⟩ := car1_cons l 4096 hl (fun x hx => by have := h x hx; omega)
  intro x hx
  rw [e] at hx
  rcases List.mem_cons.1 hx with rfl | hx
  · omega
  · have := hs x hx; omega

set_option maxRecDepth 20000 in
set_option maxHeartbeats 2000000 in
theorem code_ncarried (w : World) (l : List Nat) (hl : l.length = 5) (hb : ∀ x ∈ l, x ≤ 9223372036854775808) :
    Calls Tryz.prog 140 #[N5 l] w (Grown (N5 (carL l)) w) := by
  obtain ⟨B, hB⟩ : ∃ B, B = w.heap.size := ⟨_, rfl⟩
  obtain ⟨x, hx⟩ : ∃ x, x = (w.alloc (.cells (l.map c64).toArray 144)).alloc (.cells #[.int .u64 0, .int .u64 0, .int .u64 0, .int .u64 0, .int .u64 0] 144) := ⟨_, rfl⟩
  have bN : NB x B l := by rw [hx, hB]; exact obj_alloc (obj_new w _)
  have bR : NB x (B + 1) [0, 0, 0, 0, 0] := by
    have := obj_new (w.alloc (.cells (l.map c64).toArray 144)) (.cells #[.int .u64 0, .int .u64 0, .int .u64 0, .int .u64 0, .int .u64 0] 144)
    rw [show (w.alloc (.cells (l.map c64).toArray 144)).heap.size = B + 1 from by rw [hB]; simp] at this
    rw [hx]
    exact this
  have hgx : w.grownBy x none := by rw [hx]; exact grow_alloc (grow_alloc (grow_refl w none) _) _
  have HV : Hid (carR l 2 = carL l) := Lib.hid rfl
  have hBw : w.heap.size ≤ B := by omega
  generalize hVV : carL l = V at *
  clear hVV
  have HN := Lib.hid bN
  have HR := Lib.hid bR
  have HG := Lib.hid hgx
  have HB := Lib.hid hB
  have HX := Lib.hid hx
  have HL := Lib.hid (And.intro hl hb)
  clear bN bR hgx hB hx hl hb
  unfold N5
  go_enter Tryz.func140, Tryz.ntmps140
  go_wp2_with fail
  rw [← HB.out, ← HX.out]
  go_loopw [3, 4, 5, 7] (fun v3 v4 vr v7 wr => ∃ (r : Nat) (L : List Nat), r ≤ 2 ∧ vr = .int .i64 r ∧ Hid (L = carR l r) ∧ Hid (L.length = 5 ∧ ∀ x ∈ L, x ≤ 9223372036854775808) ∧ Hid (NB wr B L) ∧ Hid (x.grownBy wr (some B))) (fun _ _ vr _ _ => 2 - (intOf vr).toNat)
  case atStart => exact ⟨0, l, by omega, rfl, Lib.hid rfl, HL, HN, Lib.hid (grow_refl _ _)⟩
  case round =>
    clear HL HN HX
    obtain ⟨r, L, hr, rfl, hLr, hL, hN, hg⟩ := hrel
    by_cases hlt : r < 2
    · have hd : decide ((r : Int) < 2) = true := by simp; omega
      go_wp2_with fail
      go_loopw [3, 4, 7] (fun v3 v4 vi wr => ∃ (i c : Nat), i ≤ 5 ∧ vi = .int .i64 i ∧ v3 = .int .u64 (c : Int) ∧ c ≤ 4096 ∧ Hid (c = (carF (L.take i) 0).2) ∧ Hid (NB wr B (carI L i)) ∧ Hid (x.grownBy wr (some B))) (fun _ _ vi _ => 5 - (intOf vi).toNat)
      case atStart => exact ⟨0, 0, by omega, rfl, rfl, by omega, Lib.hid rfl, Lib.hid (by show NB _ _ ([] ++ L.drop 0); rw [List.drop_zero, List.nil_append]; exact hN.out), hg⟩
      case round =>
        clear hN hg
        obtain ⟨i, c, hi, rfl, rfl, hc, hce, hK, hg⟩ := hrel
        by_cases hli : i < 5
        · have hiL : i < L.length := by rw [hL.out.1]; exact hli
          have hxb := hL.out.2 L[i] (List.getElem_mem hiL)
          have cl := hK.out.cell i (by rw [carI_length]; exact hiL)
          rw [carI_at L i hiL] at cl
          have fr := hK.out.frozen i
          obtain ⟨n1, n2⟩ := carI_next L i hiL
          rw [← hce.out] at n1 n2
          have hst := (hK.out.set i (L[i] + c)).set i ((L[i] + c) % 2251799813685248)
          rw [List.set_set, n1] at hst
          have hgs := grow_setCell (grow_setCell hg.out i (.int .u64 ((L[i] + c : Nat) : Int))) i (.int .u64 (((L[i] + c) % 2251799813685248 : Nat) : Int))
          have HS := Lib.hid (And.intro hst hgs)
          have HN2 := Lib.hid n2
          generalize L[i] = z at *
          have m1 : bits .and .u64 ((z : Int) + (c : Int)) 2251799813685247 = (((z + c) % 2251799813685248 : Nat) : Int) := by
            have := mask51 (z + c) (by omega)
            simpa using this
          have hcn : (z + c) / 2251799813685248 ≤ 4096 := by omega
          clear hst hgs n1 n2 hK hg hiL
          have hst' : NB ((wr.setCell ⟨B, i, none⟩ (.int .u64 ((z : Int) + (c : Int)))).setCell ⟨B, i, none⟩ (.int .u64 (((z : Int) + (c : Int)) % 2251799813685248))) B (carI L (i + 1)) := by simpa using HS.out.1
          have hgs' : x.grownBy ((wr.setCell ⟨B, i, none⟩ (.int .u64 ((z : Int) + (c : Int)))).setCell ⟨B, i, none⟩ (.int .u64 (((z : Int) + (c : Int)) % 2251799813685248))) (some B) := by simpa using HS.out.2
          have HS1 := Lib.hid hst'
          have HS2 := Lib.hid hgs'
          clear hst' hgs' HS
          go_wp2_with fail
          go_roundw
          case rel => exact ⟨i + 1, (z + c) / 2251799813685248, by omega, by go_num, by congr 1, hcn, Lib.hid HN2.out.symm, HS1, HS2⟩
          case measure => simp [intOf]; omega
        · obtain rfl : i = 5 := by omega
          have e5 : carI L 5 = (carF L 0).1 := by
            unfold carI
            rw [List.take_of_length_le (by have := hL.out.1; omega), List.drop_of_length_le (by have := hL.out.1; omega), List.append_nil]
          have ec : c = (carF L 0).2 := by
            have := hce.out
            rwa [List.take_of_length_le (by have := hL.out.1; omega)] at this
          have hK2 := hK.out
          rw [e5] at hK2
          have hFl : 0 < (carF L 0).1.length := by rw [carF_length, hL.out.1]; omega
          have c0 := hK2.cell 0 hFl
          have f0 := hK2.frozen 0
          have hx0 := carF_small L 0 (carF L 0).1[0] (List.getElem_mem hFl)
          have hst := hK2.set 0 ((carF L 0).1[0] + 19 * c)
          have hcar : (carF L 0).1.set 0 ((carF L 0).1[0] + 19 * c) = car1 L := by
            unfold car1
            rw [ec, List.getD_eq_getElem?_getD, List.getElem?_eq_getElem hFl]
            rfl
          rw [hcar] at hst
          have hgs := grow_setCell hg.out 0 (.int .u64 (((carF L 0).1[0] + 19 * c : Nat) : Int))
          have hcl := car1_le L hL.out.1 hL.out.2
          have hcl2 := car1_length L
          have HCL := Lib.hid (And.intro (hcl2.trans hL.out.1) hcl)
          have HLR := Lib.hid (show car1 L = carR l (r + 1) from by rw [carR, ← hLr.out])
          generalize (carF L 0).1[0] = z at *
          have hst' : NB (wr.setCell ⟨B, 0, none⟩ (.int .u64 ((z : Int) + 19 * (c : Int)))) B (car1 L) := by simpa using hst
          have hgs' : x.grownBy (wr.setCell ⟨B, 0, none⟩ (.int .u64 ((z : Int) + 19 * (c : Int)))) (some B) := by simpa using hgs
          have HS1 := Lib.hid hst'
          have HS2 := Lib.hid hgs'
          clear hst hgs hst' hgs' hcar hcl hcl2 hK2 e5 ec hFl hK hg hce
          go_wp2_with fail
          go_roundw
          case rel => exact ⟨r + 1, car1 L, by omega, by go_num, HLR, HCL, HS1, HS2⟩
          case measure => simp [intOf]; omega
    · obtain rfl : r = 2 := by omega
      have hLV : L = V := by rw [hLr.out, HV.out]
      obtain ⟨a0, a1, a2, a3, a4, h5⟩ := five hL.out.1
      have bR := Blk.kept HR.out hg.out (by simp)
      have hN2 := hN.out
      rw [h5] at hN2
      have hV5 : V = [a0, a1, a2, a3, a4] := by rw [← hLV, h5]
      obtain ⟨⟨k0, k1, k2, k3, k4⟩, _⟩ := hN2.five
      have bR2 : NB wr (B + 1) [0, 0, 0, 0, 0] := bR
      obtain ⟨⟨z0, z1, z2, z3, z4⟩, f0, f1, f2, f3, f4⟩ := bR2.five
      have HV5 := Lib.hid hV5
      have hfin := Lib.hid (grow5 (B := B + 1) (grow_trans_new HG.out hg.out (by have := HB.out; omega)) (by have := HB.out; omega) (.int .u64 (a0 : Int)) (.int .u64 (a1 : Int)) (.int .u64 (a2 : Int)) (.int .u64 (a3 : Int)) (.int .u64 (a4 : Int)))
      clear hLV h5 hN2 hV5 bR bR2 hLr hL hN hg
      go_wp2_with fail
      refine bodyPost_ret (v := .agg #[.int .u64 (a0 : Int), .int .u64 (a1 : Int), .int .u64 (a2 : Int), .int .u64 (a3 : Int), .int .u64 (a4 : Int)]) (by simp [results, Tryz.results140, go_sem, z0, z1, z2, z3, z4]) rfl ?_
      exact ⟨by rw [HV5.out]; rfl, hfin.out⟩

end Go.Proofs.YtmomfbkpniblgaaGreatDoor

namespace Go.Proofs.YtmomfbkpniblgaaGreatDoor
open Go.RowKit
set_option linter.unusedVariables false

theorem eadd64_run (x y c : Nat) (hc : c ≤ 1) (w : World) : (callFunc 142 #[.int .u64 x, .int .u64 y, .int .u64 c]).run Tryz.prog w =
    .ok (.value (.tuple #[.int .u64 (((x + y + c) % 18446744073709551616 : Nat) : Int), .int .u64 (((x + y + c) / 18446744073709551616 : Nat) : Int)])) w := by
  rw [run_callFunc_extern Tryz.func142 (by kernel_rfl) (by kernel_rfl) (by kernel_rfl) (e := add64Entry) (by kernel_rfl), run_add64 x y c (by omega) (by omega) (by omega) (by omega)]
  simp only [Result.andThen]
  congr 5 <;> omega
theorem eadd64_eq (x y c : Nat) (hc : c ≤ 1) (hx : x < 18446744073709551616) (hy : y < 18446744073709551616) : ∃ s d : Nat, s + 18446744073709551616 * d = x + y + c ∧ s < 18446744073709551616 ∧ d ≤ 1 ∧
    ∀ w : World, (callFunc 142 #[.int .u64 x, .int .u64 y, .int .u64 c]).run Tryz.prog w = .ok (.value (.tuple #[.int .u64 (s : Int), .int .u64 (d : Int)])) w :=
  ⟨_, _, by omega, Nat.mod_lt _ (by omega), by omega, fun w => eadd64_run x y c hc w⟩
theorem emul64_named (x y : Nat) (hx : x < 18446744073709551616) (hy : y < 18446744073709551616) : ∃ h l : Nat, l + 18446744073709551616 * h = x * y ∧ h < 18446744073709551616 ∧ l < 18446744073709551616 ∧
    ∀ w : World, Calls Tryz.prog 147 #[.int .u64 (x : Int), .int .u64 (y : Int)] w fun e w' => e = .returned (.tuple #[.int .u64 (h : Int), .int .u64 (l : Int)]) ∧ w' = w :=
  ⟨_, _, Nat.mod_add_div (x * y) 18446744073709551616, by
    rw [Nat.div_lt_iff_lt_mul (by omega)]
    exact Nat.mul_lt_mul_of_lt_of_lt hx hy, Nat.mod_lt _ (by omega), fun w => Tryz.bits_Mul64 x y hx hy w⟩

end Go.Proofs.YtmomfbkpniblgaaGreatDoor

namespace Go.Proofs.YtmomfbkpniblgaaGreatDoor
open Go.RowKit
set_option linter.unusedVariables false

theorem N5_lit (a0 a1 a2 a3 a4 : Nat) : N5 [a0, a1, a2, a3, a4] = .agg #[.int .u64 (a0 : Int), .int .u64 (a1 : Int), .int .u64 (a2 : Int), .int .u64 (a3 : Int), .int .u64 (a4 : Int)] := rfl

/-- So far added. -/
def plusI (a b : List Nat) (i : Nat) : List Nat := (plusL a b).take i ++ a.drop i
theorem plusL_length (a b : List Nat) : (plusL a b).length = min a.length b.length := List.length_zipWith
theorem plusL_at (a b : List Nat) (i : Nat) (h : i < (plusL a b).length) (h1 : i < a.length) (h2 : i < b.length) : (plusL a b)[i] = a[i] + b[i] := by simp [plusL]
theorem part_set' (X a : List Nat) (i : Nat) (hX : X.length = a.length) (hi : i < a.length) : (X.take i ++ a.drop i).set i (X[i]'(by omega)) = X.take (i + 1) ++ a.drop (i + 1) := by
  have e : a.drop i = a[i] :: a.drop (i + 1) := List.drop_eq_getElem_cons hi
  have lt : (X.take i).length = i := by rw [List.length_take]; omega
  rw [List.set_append_right _ _ (by omega), lt, Nat.sub_self, e, List.set_cons_zero, List.take_succ_eq_append_getElem (by omega), List.append_assoc]
  rfl
theorem part_at (X a : List Nat) (i : Nat) (hX : X.length = a.length) (hi : i < a.length) : (X.take i ++ a.drop i)[i]'(by rw [List.length_append, List.length_take, List.length_drop]; omega) = a[i] := by
  have lt : (X.take i).length = i := by rw [List.length_take]; omega
  rw [List.getElem_append_right (by omega), List.getElem_drop]
  congr 1
  omega
theorem part_len (X a : List Nat) (i : Nat) (hX : X.length = a.length) (hi : i ≤ a.length) : (X.take i ++ a.drop i).length = a.length := by
  rw [List.length_append, List.length_take, List.length_drop]
  omega

set_option maxRecDepth 20000 in
set_option maxHeartbeats 2000000 in
theorem code_nplus (w : World) (a b : List Nat) (ha : Ok5 a) (hb : Ok5 b) :
    Calls Tryz.prog 86 #[N5 a, N5 b] w (NumIs (lval a + lval b) w) := by
  obtain ⟨B, hB⟩ : ∃ B, B = w.heap.size := ⟨_, rfl⟩
  obtain ⟨x, hx⟩ : ∃ x, x = ((w.alloc (.cells (a.map c64).toArray 144)).alloc (.cells (b.map c64).toArray 144)).alloc (.cells #[.int .u64 0, .int .u64 0, .int .u64 0, .int .u64 0, .int .u64 0] 144) := ⟨_, rfl⟩
  have s1 : (w.alloc (.cells (a.map c64).toArray 144)).heap.size = B + 1 := by rw [hB]; simp
  have s2 : ((w.alloc (.cells (a.map c64).toArray 144)).alloc (.cells (b.map c64).toArray 144)).heap.size = B + 1 + 1 := by rw [hB]; simp
  have bA : NB x B a := by rw [hx, hB]; exact obj_alloc (obj_alloc (obj_new w _))
  have bB : NB x (B + 1) b := by rw [hx, ← s1]; exact obj_alloc (obj_new _ _)
  have bR : NB x (B + 1 + 1) [0, 0, 0, 0, 0] := by rw [hx, ← s2]; exact obj_new _ _
  have hgx : w.grownBy x none := by rw [hx]; exact grow_alloc (grow_alloc (grow_alloc (grow_refl w none) _) _) _
  have la := ha.length
  have lb := hb.length
  have lX : (plusL a b).length = a.length := by rw [plusL_length, la, lb]; rfl
  have hXle : ∀ x ∈ plusL a b, x ≤ 9223372036854775808 := by
    intro z hz
    obtain ⟨i, hi, rfl⟩ := List.getElem_of_mem hz
    rw [plusL_at a b i hi (by omega) (by omega)]
    have h1 := ha.le _ (List.getElem_mem (show i < a.length by omega))
    have h2 := hb.le _ (List.getElem_mem (show i < b.length by omega))
    omega
  have hval := plusL_val a b (by omega)
  have HC : ∀ W : World, Calls Tryz.prog 140 #[N5 (plusL a b)] W (Grown (N5 (carL (plusL a b))) W) := fun W => code_ncarried W _ (by omega) hXle
  have hok := carL_ok (plusL a b) (by omega) hXle
  have hcv := carL_val (plusL a b) (by omega)
  rw [hval] at hcv
  have HRES := Lib.hid (And.intro hok hcv)
  have HA := Lib.hid bA
  have HBB := Lib.hid bB
  have HR := Lib.hid bR
  have HG := Lib.hid hgx
  have HB := Lib.hid hB
  have HX := Lib.hid hx
  have HLA := Lib.hid la
  have HLB := Lib.hid lb
  have HLX := Lib.hid lX
  have HAL := Lib.hid ha.le
  have HBL := Lib.hid hb.le
  clear hok hcv hval hXle bA bB bR hgx hB hx s1 s2 la lb lX ha hb
  unfold N5
  go_enter Tryz.func86, Tryz.ntmps86
  go_wp2_with fail
  rw [← HB.out, ← HX.out]
  go_loopw [5, 6] (fun v5 vi wr => ∃ i : Nat, i ≤ 5 ∧ vi = .int .i64 i ∧ Hid (NB wr B ((plusL a b).take i ++ a.drop i)) ∧ Hid (x.grownBy wr (some B))) (fun _ vi _ => 5 - (intOf vi).toNat)
  case atStart => exact ⟨0, by omega, rfl, Lib.hid (by rw [List.take_zero, List.nil_append, List.drop_zero]; exact HA.out), Lib.hid (grow_refl _ _)⟩
  case round =>
    clear HA HX
    obtain ⟨i, hi, rfl, hK, hg⟩ := hrel
    by_cases hli : i < 5
    · have hia : i < a.length := by rw [HLA.out]; exact hli
      have hib : i < b.length := by rw [HLB.out]; exact hli
      have ca := hK.out.cell i (by rw [part_len _ _ _ HLX.out (by omega)]; exact hia)
      rw [part_at _ _ _ HLX.out hia] at ca
      have fa := hK.out.frozen i
      have bB : NB wr (B + 1) b := Blk.kept HBB.out hg.out (by simp)
      have cb := bB.cell i hib
      have hst := hK.out.set i (a[i] + b[i])
      have e : a[i] + b[i] = (plusL a b)[i]'(by rw [HLX.out]; exact hia) := (plusL_at a b i _ hia hib).symm
      have hst2 : NB (wr.setCell ⟨B, i, none⟩ (.int .u64 ((a[i] + b[i] : Nat) : Int))) B ((plusL a b).take (i + 1) ++ a.drop (i + 1)) := by
        rw [← part_set' _ _ _ HLX.out hia, ← e]; exact hst
      have hgs := grow_setCell hg.out i (.int .u64 ((a[i] + b[i] : Nat) : Int))
      have k1 := HAL.out a[i] (List.getElem_mem hia)
      have k2 := HBL.out b[i] (List.getElem_mem hib)
      generalize a[i] = p at *
      generalize b[i] = q at *
      have hst' : NB (wr.setCell ⟨B, i, none⟩ (.int .u64 ((p : Int) + (q : Int)))) B ((plusL a b).take (i + 1) ++ a.drop (i + 1)) := by simpa using hst2
      have hgs' : x.grownBy (wr.setCell ⟨B, i, none⟩ (.int .u64 ((p : Int) + (q : Int)))) (some B) := by simpa using hgs
      have HS1 := Lib.hid hst'
      have HS2 := Lib.hid hgs'
      have i0 : (0 : Int) ≤ (i : Int) := by omega
      have i1 : (i : Int) < 5 := by omega
      have w1 : IntKind.u64.wrap ((p : Int) + (q : Int)) = (p : Int) + (q : Int) := IntWalk.u64_in _ (by omega)
      clear hst' hgs' hst hst2 hgs e bB hK hg hia hib
      go_wp2_with fail
      go_still_tail 8, (by kernel_rfl)
      change wpList _ _ _ _ _ wr.drew
      go_wp2_with fail
      go_roundw
      case rel => exact ⟨i + 1, by omega, by go_num, HS1, Lib.hid (grow_drew HS2.out)⟩
      case measure => simp [intOf]; omega
    · obtain rfl : i = 5 := by omega
      have hK2 := hK.out
      rw [List.take_of_length_le (by rw [HLX.out, HLA.out]; omega), List.drop_of_length_le (by rw [HLA.out]; omega), List.append_nil] at hK2
      obtain ⟨s0, s1, s2, s3, s4, h5⟩ := five (HLX.out.trans HLA.out)
      rw [h5] at hK2 HC
      obtain ⟨r0, r1, r2, r3, r4, h6⟩ := five (HRES.out.1.length)
      rw [← h5, h6, h5, N5_lit, N5_lit] at HC
      obtain ⟨⟨k0, k1, k2, k3, k4⟩, _⟩ := hK2.five
      have bR : NB wr (B + 1 + 1) [0, 0, 0, 0, 0] := Blk.kept HR.out hg.out (by simp; omega)
      have HR2 := Lib.hid bR
      have HG2 := Lib.hid (grow_trans_new HG.out hg.out (by have := HB.out; omega))
      have HRR := Lib.hid h6
      have HC' := HC
      clear h5 h6 hK2 bR hK hg HC
      go_wp2_with fail
      (with_reducible refine (HC' _).mono ?_)
      rintro e w2 ⟨rfl, hg2⟩
      have bR3 : NB w2 (B + 1 + 1) [0, 0, 0, 0, 0] := Blk.kept HR2.out hg2 nofun
      obtain ⟨⟨z0, z1, z2, z3, z4⟩, f0, f1, f2, f3, f4⟩ := bR3.five
      have hfin := Lib.hid (grow5 (B := B + 1 + 1) (grow_trans HG2.out hg2) (by have := HB.out; omega) (.int .u64 (r0 : Int)) (.int .u64 (r1 : Int)) (.int .u64 (r2 : Int)) (.int .u64 (r3 : Int)) (.int .u64 (r4 : Int)))
      clear k0 k1 k2 k3 k4 bR3 hg2 HC'
      go_wp2_with fail
      refine bodyPost_ret (v := .agg #[.int .u64 (r0 : Int), .int .u64 (r1 : Int), .int .u64 (r2 : Int), .int .u64 (r3 : Int), .int .u64 (r4 : Int)]) (by simp [results, Tryz.results86, go_sem, z0, z1, z2, z3, z4]) rfl ?_
      exact ⟨carL (plusL a b), by rw [HRR.out]; rfl, HRES.out.1, HRES.out.2, hfin.out⟩

end Go.Proofs.YtmomfbkpniblgaaGreatDoor

namespace Go.Proofs.YtmomfbkpniblgaaGreatDoor
open Go.RowKit
set_option linter.unusedVariables false

/-- A difference. -/
def MinusIs (a b : Nat) (w : World) (e : Ending) (w' : World) : Prop := ∃ l, e = .returned (N5 l) ∧ Ok5 l ∧ (lval l + b) % PP = a % PP ∧ w.grownBy w' none
theorem minusL_length (a b : List Nat) : (minusL a b).length = 5 := by simp [minusL]
theorem minusL_at (a b : List Nat) (i : Nat) (h : i < (minusL a b).length) (h1 : i < a.length) (h2 : i < b.length) : (minusL a b)[i] = a[i] + 9007199254740988 - b[i] - (if i = 0 then 72 else 0) := by
  simp only [minusL, List.getElem_map, List.getElem_range]
  rw [List.getD_eq_getElem?_getD, List.getElem?_eq_getElem h1, List.getD_eq_getElem?_getD, List.getElem?_eq_getElem h2]
  rfl

theorem NB.drew {w : World} {B : Nat} {l : List Nat} (h : NB w B l) : NB w.drew B l := h

set_option maxRecDepth 20000 in
set_option maxHeartbeats 2000000 in
theorem code_nminus (w : World) (a b : List Nat) (ha : Ok5 a) (hb : Ok5 b) :
    Calls Tryz.prog 163 #[N5 a, N5 b] w (MinusIs (lval a) (lval b) w) := by
  obtain ⟨B, hB⟩ : ∃ B, B = w.heap.size := ⟨_, rfl⟩
  obtain ⟨x, hx⟩ : ∃ x, x = ((w.alloc (.cells (a.map c64).toArray 144)).alloc (.cells (b.map c64).toArray 144)).alloc (.cells #[.int .u64 0, .int .u64 0, .int .u64 0, .int .u64 0, .int .u64 0] 144) := ⟨_, rfl⟩
  have s1 : (w.alloc (.cells (a.map c64).toArray 144)).heap.size = B + 1 := by rw [hB]; simp
  have s2 : ((w.alloc (.cells (a.map c64).toArray 144)).alloc (.cells (b.map c64).toArray 144)).heap.size = B + 1 + 1 := by rw [hB]; simp
  have bA : NB x B a := by rw [hx, hB]; exact obj_alloc (obj_alloc (obj_new w _))
  have bB : NB x (B + 1) b := by rw [hx, ← s1]; exact obj_alloc (obj_new _ _)
  have bR : NB x (B + 1 + 1) [0, 0, 0, 0, 0] := by rw [hx, ← s2]; exact obj_new _ _
  have hgx : w.grownBy x none := by rw [hx]; exact grow_alloc (grow_alloc (grow_alloc (grow_refl w none) _) _) _
  have la := ha.length
  have lb := hb.length
  have lX : (minusL a b).length = a.length := by rw [minusL_length, la]
  have hXle : ∀ x ∈ minusL a b, x ≤ 9223372036854775808 := by
    intro z hz
    obtain ⟨i, hi, rfl⟩ := List.getElem_of_mem hz
    rw [minusL_at a b i hi (by omega) (by omega)]
    have h1 := ha.le _ (List.getElem_mem (show i < a.length by omega))
    omega
  have hval : lval (minusL a b) + lval b = lval a + 4 * PP := by
    obtain ⟨a0, a1, a2, a3, a4, rfl⟩ := five la
    obtain ⟨b0, b1, b2, b3, b4, rfl⟩ := five lb
    have hh := hb.le
    simp only [List.mem_cons, List.not_mem_nil, or_false, forall_eq_or_imp, forall_eq] at hh
    exact minusL_val a0 a1 a2 a3 a4 b0 b1 b2 b3 b4 hh.1 hh.2.1 hh.2.2.1 hh.2.2.2.1 hh.2.2.2.2
  have HC : ∀ W : World, Calls Tryz.prog 140 #[N5 (minusL a b)] W (Grown (N5 (carL (minusL a b))) W) := fun W => code_ncarried W _ (by omega) hXle
  have hok := carL_ok (minusL a b) (by omega) hXle
  have hcv : (lval (carL (minusL a b)) + lval b) % PP = lval a % PP := by
    have h1 := carL_val (minusL a b) (by omega)
    have e1 : (lval (carL (minusL a b)) + lval b) % PP = (lval (minusL a b) + lval b) % PP := by rw [Nat.add_mod, h1, ← Nat.add_mod]
    rw [e1, hval, Nat.mul_comm 4, Nat.add_mul_mod_self_left]
  have HRES := Lib.hid (And.intro hok hcv)
  have HA := Lib.hid bA
  have HBB := Lib.hid bB
  have HR := Lib.hid bR
  have HG := Lib.hid hgx
  have HB := Lib.hid hB
  have HX := Lib.hid hx
  have HLA := Lib.hid la
  have HLB := Lib.hid lb
  have HLX := Lib.hid lX
  have HAL := Lib.hid ha.le
  have HBL := Lib.hid hb.le
  clear hok hcv hval hXle bA bB bR hgx hB hx s1 s2 la lb lX ha hb
  unfold N5
  go_enter Tryz.func163, Tryz.ntmps163
  go_wp2_with fail
  rw [← HB.out, ← HX.out]
  go_loopw [5, 6] (fun v5 vi wr => ∃ i : Nat, i ≤ 5 ∧ vi = .int .i64 i ∧ Hid (NB wr B ((minusL a b).take i ++ a.drop i)) ∧ Hid (x.grownBy wr (some B))) (fun _ vi _ => 5 - (intOf vi).toNat)
  case atStart => exact ⟨0, by omega, rfl, Lib.hid (by rw [List.take_zero, List.nil_append, List.drop_zero]; exact HA.out), Lib.hid (grow_refl _ _)⟩
  case round =>
    clear HA HX
    obtain ⟨i, hi, rfl, hK, hg⟩ := hrel
    by_cases hli : i < 5
    · have hia : i < a.length := by rw [HLA.out]; exact hli
      have hib : i < b.length := by rw [HLB.out]; exact hli
      have ca := hK.out.cell i (by rw [part_len _ _ _ HLX.out (by omega)]; exact hia)
      rw [part_at _ _ _ HLX.out hia] at ca
      have fa := hK.out.frozen i
      have bB : NB wr (B + 1) b := Blk.kept HBB.out hg.out (by simp)
      have cb := bB.cell i hib
      have k1 := HAL.out a[i] (List.getElem_mem hia)
      have k2 := HBL.out b[i] (List.getElem_mem hib)
      have e := minusL_at a b i (by rw [HLX.out]; exact hia) hia hib
      have hst := hK.out.set i ((minusL a b)[i]'(by rw [HLX.out]; exact hia))
      have hst2 : NB (wr.setCell ⟨B, i, none⟩ (.int .u64 (((minusL a b)[i]'(by rw [HLX.out]; exact hia) : Nat) : Int))) B ((minusL a b).take (i + 1) ++ a.drop (i + 1)) := by
        rw [← part_set' _ _ _ HLX.out hia]; exact hst
      have hst3 := (hK.out.set i (a[i] + 9007199254740988 - b[i])).set i ((minusL a b)[i]'(by rw [HLX.out]; exact hia))
      have hst4 : NB ((wr.setCell ⟨B, i, none⟩ (.int .u64 ((a[i] + 9007199254740988 - b[i] : Nat) : Int))).setCell ⟨B, i, none⟩ (.int .u64 (((minusL a b)[i]'(by rw [HLX.out]; exact hia) : Nat) : Int))) B ((minusL a b).take (i + 1) ++ a.drop (i + 1)) := by
        rw [List.set_set] at hst3
        rw [← part_set' _ _ _ HLX.out hia]; exact hst3
      have hgs := fun v : Value => grow_setCell hg.out i v
      rw [e] at hst2 hst4
      clear hst hst3 e
      generalize a[i] = p at *
      generalize b[i] = q at *
      have HS1 := Lib.hid hst2
      have HS4 := Lib.hid hst4
      have HS2 := Lib.hid hgs
      have i0 : (0 : Int) ≤ (i : Int) := by omega
      have i1 : (i : Int) < 5 := by omega
      have q9 : (q : Int) ≤ 9007199254740988 := by omega
      have w0 : IntKind.u64.wrap (9007199254740988 - (q : Int)) = 9007199254740988 - (q : Int) := IntWalk.u64_in _ (by omega)
      have w1 : IntKind.u64.wrap ((p : Int) + (9007199254740988 - (q : Int))) = (p : Int) + (9007199254740988 - (q : Int)) := IntWalk.u64_in _ (by omega)
      clear hst2 hst4 hgs bB hK hg hia hib
      by_cases hi0 : i = 0
      · subst hi0
        have e0 : ((0 : Nat) : Int) = 0 := rfl
        rw [e0] at *
        go_wp2_with fail
        go_still_tail 9, (by kernel_rfl)
        change wpList _ _ _ _ _ wr.drew
        go_wp2_with fail
        go_roundw
        case rel =>
          have v1 : (p : Int) + (9007199254740988 - (q : Int)) = ((p + 9007199254740988 - q : Nat) : Int) := by omega
          have v2 : (p : Int) + (9007199254740988 - (q : Int)) - 72 = ((p + 9007199254740988 - q - 72 : Nat) : Int) := by omega
          rw [v2, v1]
          have h4 := HS4.out
          rw [if_pos trivial, Nat.zero_add] at h4
          exact ⟨1, by omega, rfl, Lib.hid (NB.drew h4), Lib.hid (grow_drew (grow_setCell (HS2.out _) 0 _))⟩
        case measure => simp [intOf]
      · have q0 : ((i : Int) == 0) = false := by simp; omega
        have hi1 : Hid ((if i = 0 then 72 else 0) = 0) := Lib.hid (if_neg hi0)
        clear hi0
        go_wp2_with fail
        go_still_tail 9, (by kernel_rfl)
        change wpList _ _ _ _ _ wr.drew
        go_wp2_with fail
        go_roundw
        case rel =>
          have v1 : (p : Int) + (9007199254740988 - (q : Int)) = ((p + 9007199254740988 - q : Nat) : Int) := by omega
          rw [v1]
          have h1 := HS1.out
          rw [hi1.out, Nat.sub_zero] at h1
          exact ⟨i + 1, by omega, by go_num, Lib.hid (NB.drew h1), Lib.hid (grow_drew (HS2.out _))⟩
        case measure => simp [intOf]; omega
    · obtain rfl : i = 5 := by omega
      have hK2 := hK.out
      rw [List.take_of_length_le (by rw [HLX.out, HLA.out]; omega), List.drop_of_length_le (by rw [HLA.out]; omega), List.append_nil] at hK2
      obtain ⟨s0, s1, s2, s3, s4, h5⟩ := five (HLX.out.trans HLA.out)
      rw [h5] at hK2 HC
      obtain ⟨r0, r1, r2, r3, r4, h6⟩ := five (HRES.out.1.length)
      rw [← h5, h6, h5, N5_lit, N5_lit] at HC
      obtain ⟨⟨k0, k1, k2, k3, k4⟩, _⟩ := hK2.five
      have bR : NB wr (B + 1 + 1) [0, 0, 0, 0, 0] := Blk.kept HR.out hg.out (by simp; omega)
      have HR2 := Lib.hid bR
      have HG2 := Lib.hid (grow_trans_new HG.out hg.out (by have := HB.out; omega))
      have HRR := Lib.hid h6
      have HC' := HC
      clear h5 h6 hK2 bR hK hg HC
      go_wp2_with fail
      (with_reducible refine (HC' _).mono ?_)
      rintro e w2 ⟨rfl, hg2⟩
      have bR3 : NB w2 (B + 1 + 1) [0, 0, 0, 0, 0] := Blk.kept HR2.out hg2 nofun
      obtain ⟨⟨z0, z1, z2, z3, z4⟩, f0, f1, f2, f3, f4⟩ := bR3.five
      have hfin := Lib.hid (grow5 (B := B + 1 + 1) (grow_trans HG2.out hg2) (by have := HB.out; omega) (.int .u64 (r0 : Int)) (.int .u64 (r1 : Int)) (.int .u64 (r2 : Int)) (.int .u64 (r3 : Int)) (.int .u64 (r4 : Int)))
      clear k0 k1 k2 k3 k4 bR3 hg2 HC'
      go_wp2_with fail
      refine bodyPost_ret (v := .agg #[.int .u64 (r0 : Int), .int .u64 (r1 : Int), .int .u64 (r2 : Int), .int .u64 (r3 : Int), .int .u64 (r4 : Int)]) (by simp [results, Tryz.results163, go_sem, z0, z1, z2, z3, z4]) rfl ?_
      exact ⟨carL (minusL a b), by rw [HRR.out]; rfl, HRES.out.1, HRES.out.2, hfin.out⟩

end Go.Proofs.YtmomfbkpniblgaaGreatDoor

namespace Go.Proofs.YtmomfbkpniblgaaGreatDoor
open Go.RowKit
set_option linter.unusedVariables false

def whi (n : Nat) : Nat := n / 18446744073709551616
def wlo (n : Nat) : Nat := n % 18446744073709551616
/-- A wide number. -/
def W2 (n : Nat) : Value := .agg #[.int .u64 (whi n : Nat), .int .u64 (wlo n : Nat)]

set_option maxHeartbeats 1000000 in
theorem code_nwide (w : World) (n x y : Nat) (hx : x < 18446744073709551616) (hy : y < 18446744073709551616) (hn : n + x * y < 340282366920938463463374607431768211456) :
    Calls Tryz.prog 141 #[W2 n, .int .u64 (x : Int), .int .u64 (y : Int)] w (Grown (W2 (n + x * y)) w) := by
  obtain ⟨h, l, m1, lh, ll, M⟩ := emul64_named x y hx hy
  obtain ⟨s, d, e1, ls, ld, E1⟩ := eadd64_eq (wlo n) l 0 (by omega) (Nat.mod_lt _ (by omega)) ll
  have lhn : whi n < 18446744073709551616 := by unfold whi; omega
  obtain ⟨t, d2, e2, lt, ld2, E2⟩ := eadd64_eq (whi n) h d ld lhn lh
  have hV : W2 (n + x * y) = .agg #[.int .u64 (t : Int), .int .u64 (s : Int)] := by
    have hs : wlo (n + x * y) = s ∧ whi (n + x * y) = t := by
      unfold wlo whi at *
      rw [← m1] at hn ⊢
      omega
    unfold W2
    rw [hs.1, hs.2]
  rw [hV]
  unfold W2
  have lw : wlo n < 18446744073709551616 := Nat.mod_lt _ (by omega)
  clear hV m1 e1 e2 hn
  generalize whi n = nh at *
  generalize wlo n = nl at *
  have z0 : ((0 : Nat) : Int) = 0 := rfl
  rw [z0] at E1
  clear z0
  go_enter Tryz.func141, Tryz.ntmps141
  go_wp2_with fail
  (with_reducible refine (M _).mono ?_)
  rintro e w2 ⟨rfl, rfl⟩
  go_wp2_with fail
  refine bodyPost_ret (v := .agg #[.int .u64 (t : Int), .int .u64 (s : Int)]) (by simp [results, Tryz.results141, go_sem]) rfl ?_
  exact ⟨rfl, grow_alloc (grow_alloc (grow_refl w none) _) _⟩

/-- Wide numbers side by side. -/
def wcells (W : List Nat) : List Value := W.flatMap fun n => [.int .u64 (whi n : Nat), .int .u64 (wlo n : Nat)]
def WBk (w : World) (B : Nat) (W : List Nat) : Prop := Blk w B 214 (wcells W)

theorem wcells_length (W : List Nat) : (wcells W).length = 2 * W.length := by
  induction W with
  | nil => rfl
  | cons n W ih => simp only [wcells, List.flatMap_cons, List.length_append, List.length_cons, List.length_nil] at ih ⊢; omega
theorem wcells_at : ∀ (W : List Nat) (i : Nat) (h : i < W.length), (wcells W)[2 * i]? = some (.int .u64 (whi W[i] : Nat)) ∧ (wcells W)[2 * i + 1]? = some (.int .u64 (wlo W[i] : Nat))
  | n :: W, 0, _ => ⟨rfl, rfl⟩
  | n :: W, i + 1, h => by
    have ih := wcells_at W i (by simpa using h)
    have e1 : 2 * (i + 1) = (2 * i) + 1 + 1 := by omega
    rw [e1]
    exact ih
theorem wcells_set : ∀ (W : List Nat) (i n : Nat), i < W.length → ((wcells W).set (2 * i) (.int .u64 (whi n : Nat))).set (2 * i + 1) (.int .u64 (wlo n : Nat)) = wcells (W.set i n)
  | m :: W, 0, n, _ => rfl
  | m :: W, i + 1, n, h => by
    have ih := wcells_set W i n (by simpa using h)
    have e1 : 2 * (i + 1) = (2 * i) + 1 + 1 := by omega
    rw [e1]
    show _ :: _ :: ((wcells W).set (2 * i) _).set (2 * i + 1) _ = _ :: _ :: wcells (W.set i n)
    rw [ih]
theorem WBk.cell {w : World} {B : Nat} {W : List Nat} (h : WBk w B W) (i : Nat) (hi : i < W.length) : w.cell? ⟨B, 2 * i, none⟩ = some (.int .u64 (whi W[i] : Nat)) ∧ w.cell? ⟨B, 2 * i + 1, none⟩ = some (.int .u64 (wlo W[i] : Nat)) := by
  rw [Blk.cell h, Blk.cell h]
  exact wcells_at W i hi
theorem WBk.set {w : World} {B : Nat} {W : List Nat} (h : WBk w B W) (i n : Nat) (hi : i < W.length) : WBk ((w.setCell ⟨B, 2 * i, none⟩ (.int .u64 (whi n : Nat))).setCell ⟨B, 2 * i + 1, none⟩ (.int .u64 (wlo n : Nat))) B (W.set i n) := by
  have := (Blk.set h (2 * i) (.int .u64 (whi n : Nat))).set (2 * i + 1) (.int .u64 (wlo n : Nat))
  rw [wcells_set W i n hi] at this
  exact this

theorem idx5_0 (w : World) (a0 a1 a2 a3 a4 : Int) : (Instr.index 144 (.agg #[.int .u64 a0, .int .u64 a1, .int .u64 a2, .int .u64 a3, .int .u64 a4]) (.int .i64 0)).run Tryz.prog w = .ok (.int .u64 a0) w := by kernel_rfl
theorem idx5_1 (w : World) (a0 a1 a2 a3 a4 : Int) : (Instr.index 144 (.agg #[.int .u64 a0, .int .u64 a1, .int .u64 a2, .int .u64 a3, .int .u64 a4]) (.int .i64 1)).run Tryz.prog w = .ok (.int .u64 a1) w := by kernel_rfl
theorem idx5_2 (w : World) (a0 a1 a2 a3 a4 : Int) : (Instr.index 144 (.agg #[.int .u64 a0, .int .u64 a1, .int .u64 a2, .int .u64 a3, .int .u64 a4]) (.int .i64 2)).run Tryz.prog w = .ok (.int .u64 a2) w := by kernel_rfl
theorem idx5_3 (w : World) (a0 a1 a2 a3 a4 : Int) : (Instr.index 144 (.agg #[.int .u64 a0, .int .u64 a1, .int .u64 a2, .int .u64 a3, .int .u64 a4]) (.int .i64 3)).run Tryz.prog w = .ok (.int .u64 a3) w := by kernel_rfl
theorem idx5_4 (w : World) (a0 a1 a2 a3 a4 : Int) : (Instr.index 144 (.agg #[.int .u64 a0, .int .u64 a1, .int .u64 a2, .int .u64 a3, .int .u64 a4]) (.int .i64 4)).run Tryz.prog w = .ok (.int .u64 a4) w := by kernel_rfl
theorem idxw_0 (w : World) (a0 b0 a1 b1 a2 b2 a3 b3 a4 b4 : Int) : (Instr.index 214 (.agg #[.int .u64 a0, .int .u64 b0, .int .u64 a1, .int .u64 b1, .int .u64 a2, .int .u64 b2, .int .u64 a3, .int .u64 b3, .int .u64 a4, .int .u64 b4]) (.int .i64 0)).run Tryz.prog w = .ok (.agg #[.int .u64 a0, .int .u64 b0]) w := by kernel_rfl
theorem idxw_1 (w : World) (a0 b0 a1 b1 a2 b2 a3 b3 a4 b4 : Int) : (Instr.index 214 (.agg #[.int .u64 a0, .int .u64 b0, .int .u64 a1, .int .u64 b1, .int .u64 a2, .int .u64 b2, .int .u64 a3, .int .u64 b3, .int .u64 a4, .int .u64 b4]) (.int .i64 1)).run Tryz.prog w = .ok (.agg #[.int .u64 a1, .int .u64 b1]) w := by kernel_rfl
theorem idxw_2 (w : World) (a0 b0 a1 b1 a2 b2 a3 b3 a4 b4 : Int) : (Instr.index 214 (.agg #[.int .u64 a0, .int .u64 b0, .int .u64 a1, .int .u64 b1, .int .u64 a2, .int .u64 b2, .int .u64 a3, .int .u64 b3, .int .u64 a4, .int .u64 b4]) (.int .i64 2)).run Tryz.prog w = .ok (.agg #[.int .u64 a2, .int .u64 b2]) w := by kernel_rfl
theorem idxw_3 (w : World) (a0 b0 a1 b1 a2 b2 a3 b3 a4 b4 : Int) : (Instr.index 214 (.agg #[.int .u64 a0, .int .u64 b0, .int .u64 a1, .int .u64 b1, .int .u64 a2, .int .u64 b2, .int .u64 a3, .int .u64 b3, .int .u64 a4, .int .u64 b4]) (.int .i64 3)).run Tryz.prog w = .ok (.agg #[.int .u64 a3, .int .u64 b3]) w := by kernel_rfl
theorem idxw_4 (w : World) (a0 b0 a1 b1 a2 b2 a3 b3 a4 b4 : Int) : (Instr.index 214 (.agg #[.int .u64 a0, .int .u64 b0, .int .u64 a1, .int .u64 b1, .int .u64 a2, .int .u64 b2, .int .u64 a3, .int .u64 b3, .int .u64 a4, .int .u64 b4]) (.int .i64 4)).run Tryz.prog w = .ok (.agg #[.int .u64 a4, .int .u64 b4]) w := by kernel_rfl
theorem idx5 (w : World) (a0 a1 a2 a3 a4 : Nat) (k : Nat) (hk : k < [a0, a1, a2, a3, a4].length) :
    (Instr.index 144 (.agg #[.int .u64 (a0 : Int), .int .u64 (a1 : Int), .int .u64 (a2 : Int), .int .u64 (a3 : Int), .int .u64 (a4 : Int)]) (.int .i64 (k : Int))).run Tryz.prog w = .ok (.int .u64 (([a0, a1, a2, a3, a4][k] : Nat) : Int)) w := by
  match k, hk with
  | 0, _ => exact idx5_0 w _ _ _ _ _
  | 1, _ => exact idx5_1 w _ _ _ _ _
  | 2, _ => exact idx5_2 w _ _ _ _ _
  | 3, _ => exact idx5_3 w _ _ _ _ _
  | 4, _ => exact idx5_4 w _ _ _ _ _

end Go.Proofs.YtmomfbkpniblgaaGreatDoor

namespace Go.Proofs.YtmomfbkpniblgaaGreatDoor
open Go.RowKit
set_option linter.unusedVariables false

/-- A block that holds a number that leaves v. -/
def NV (w : World) (B v : Nat) : Prop := ∃ l, NB w B l ∧ Ok5 l ∧ lval l % PP = v % PP
/-- A value that is such a number. -/
def Val (v : Nat) (x : Value) : Prop := ∃ l, x = N5 l ∧ Ok5 l ∧ lval l % PP = v % PP
theorem NV.kept {w w' : World} {B v : Nat} {r : Option Nat} (h : NV w B v) (g : w.grownBy w' r) (hr : some B ≠ r) : NV w' B v := by
  obtain ⟨l, h1, h2, h3⟩ := h
  exact ⟨l, Blk.kept h1 g hr, h2, h3⟩
theorem NV.keptN {w w' : World} {B v : Nat} (h : NV w B v) (g : w.grownBy w' none) : NV w' B v := h.kept g (by simp)
theorem NV.lt {w : World} {B v : Nat} (h : NV w B v) : B < w.heap.size := by
  obtain ⟨l, h1, _⟩ := h
  exact Blk.lt h1

/-- What an operation does: a number into a slot; a new block's pointer into a slot; a number into the new block of operation m, slot p; a number v into the old block B that slot p points at and that held u. -/
inductive Kd where
  | val (d v : Nat)
  | alc (d : Nat)
  | sto (m p v : Nat)
  | old (p B u v : Nat)

def Kd.dst : Kd → Option Nat
  | .val d _ => some d
  | .alc d => some d
  | .sto _ _ _ => none
  | .old _ _ _ _ => none

def ptrTo (k : Nat) : Value := .pointer (some ⟨k, 0, none⟩)

/-- Of the blocks that were there just those of D are written. -/
structure KeptBut (D : List Nat) (w w' : World) : Prop where
  size : w.heap.size ≤ w'.heap.size
  block : ∀ b, b < w.heap.size → b ∉ D → w'.heap[b]? = w.heap[b]?
theorem KeptBut.grow {D : List Nat} {w0 w w' : World} {r : Option Nat} (h : KeptBut D w0 w) (g : w.grownBy w' r) (hr : ∀ k, r = some k → w0.heap.size ≤ k ∨ k ∈ D) : KeptBut D w0 w' :=
  ⟨Nat.le_trans h.size g.size, fun b hb hD => by
    rw [g.block b (Nat.lt_of_lt_of_le hb h.size) (by intro e; rcases hr b e.symm with h | h; omega; exact hD h), h.block b hb hD]⟩
theorem NV.keptBut {D : List Nat} {w w' : World} {B v : Nat} (h : NV w B v) (k : KeptBut D w w') (hB : B ∉ D) : NV w' B v := by
  have hl := h.lt
  obtain ⟨l, h1, h2, h3⟩ := h
  exact ⟨l, by unfold NB Blk at h1 ⊢; rw [k.block B hl hB]; exact h1, h2, h3⟩

structure NInv (wb w0 : World) (a0 : Act) (W D : List Nat) (ops : Array Oper) (ks : List Kd) (L : Nat → Bool) (a : Act) (w : World) : Prop where
  base : wb.grownBy w none
  kept : KeptBut D w0 w
  size : a.tmps.size = a0.tmps.size
  defs : a.defers = a0.defers
  same : ∀ s, s ∉ W → a.tmps[s]? = a0.tmps[s]?
  closed : ∀ (i : Nat) (o : Oper), ops[i]? = some o → L i = true → ∀ e ∈ o.after, Region.binds .any e = true → L e.on = true
  val : ∀ i d v, ks[i]? = some (.val d v) → L i = true → Val v (a.tmps.getD d undef)
  alc : ∀ i d, ks[i]? = some (.alc d) → L i = true → ∃ k u, a.tmps.getD d undef = ptrTo k ∧ w0.heap.size ≤ k ∧ NV w k u
  sto : ∀ i m p v, ks[i]? = some (.sto m p v) → L i = true → L m = true ∧ ks[m]? = some (.alc p) ∧ ∃ k, a.tmps.getD p undef = ptrTo k ∧ w0.heap.size ≤ k ∧ NV w k v
  old : ∀ i p B u v, ks[i]? = some (.old p B u v) → NV w B (if L i = true then v else u)
  apart : ∀ i j d d', ks[i]? = some (.alc d) → ks[j]? = some (.alc d') → i ≠ j → L i = true → L j = true → a.tmps.getD d undef ≠ a.tmps.getD d' undef

/-- The old blocks that are written. -/
structure Olds (wb w0 : World) (a0 : Act) (W D : List Nat) (ks : List Kd) : Prop where
  base : wb.heap.size ≤ w0.heap.size
  lies : ∀ (i p B u v : Nat), ks[i]? = some (.old p B u v) → B ∈ D ∧ B < w0.heap.size ∧ wb.heap.size ≤ B ∧ p ∉ W ∧ a0.tmps.getD p undef = ptrTo B
  differ : ∀ (i j p B u v p' B' u' v' : Nat), ks[i]? = some (.old p B u v) → ks[j]? = some (.old p' B' u' v') → i ≠ j → B ≠ B'

/-- The kinds' slots are apart, each within W and the frame; each new block is stored into once. -/
def okKinds (W : List Nat) (n : Nat) (ks : List Kd) : Bool :=
  (List.range ks.length).all fun i => (List.range ks.length).all fun j =>
    match ks[i]?, ks[j]? with
    | some x, some y =>
      (match x.dst with
       | some d => W.contains d && decide (d < n) && (i == j || y.dst != some d)
       | none => true) &&
      (match x, y with
       | .sto m _ _, .sto m' _ _ => i == j || m != m'
       | .sto m p _, _ => (match ks[m]? with | some (.alc p') => p == p' | _ => false)
       | _, _ => true)
    | _, _ => true

theorem okKinds_at {W : List Nat} {n : Nat} {ks : List Kd} (h : okKinds W n ks = true) {i j : Nat} {x y : Kd} (hi : ks[i]? = some x) (hj : ks[j]? = some y) :
    (∀ d, x.dst = some d → d ∈ W ∧ d < n ∧ (i ≠ j → y.dst ≠ some d)) ∧ (∀ m p v m' p' v', x = .sto m p v → y = .sto m' p' v' → i ≠ j → m ≠ m') := by
  unfold okKinds at h
  have h1 := List.all_eq_true.1 (List.all_eq_true.1 h i (List.mem_range.2 (List.getElem?_eq_some_iff.1 hi).1)) j (List.mem_range.2 (List.getElem?_eq_some_iff.1 hj).1)
  rw [hi, hj] at h1
  simp only [Bool.and_eq_true] at h1
  refine ⟨fun d hd => ?_, fun m p v m' p' v' hx hy hne => ?_⟩
  · have h2 := h1.1
    rw [hd] at h2
    simp only [Bool.and_eq_true, decide_eq_true_eq, Bool.or_eq_true, beq_iff_eq, bne_iff_ne, List.contains_iff_mem] at h2
    exact ⟨h2.1.1, h2.1.2, fun hne => h2.2.resolve_left hne⟩
  · have h2 := h1.2
    subst hx hy
    simp only [Bool.or_eq_true, beq_iff_eq, bne_iff_ne] at h2
    exact h2.resolve_left hne

/-- Does an operation wait for another one? -/
def waits (o : Oper) (n : Nat) : Bool := o.after.any fun e => Region.binds .any e && e.on == n
theorem waits_spec {o : Oper} {n : Nat} {L : Nat → Bool} (h : waits o n = true) (hd : ∀ e ∈ o.after, Region.binds .any e = true → L e.on = true) : L n = true := by
  unfold waits at h
  obtain ⟨e, he, h2⟩ := Array.any_eq_true'.1 h
  simp only [Bool.and_eq_true, beq_iff_eq] at h2
  have := hd e he h2.1
  rwa [h2.2] at this

/-- What the operations are, kind by kind. -/
def Fits (P : Program) (T : TypeId) (ops : Array Oper) (Q : Exit → Act → World → Prop) (wb w0 : World) (a0 : Act) (W D : List Nat) (ks : List Kd) (i : Nat) (o : Oper) : Kd → Prop
  | .val d v => ∀ (L : Nat → Bool) (a : Act) (w : World) (K : Act → World → Prop), NInv wb w0 a0 W D ops ks L a w → L i = false → (∀ e ∈ o.after, Region.binds .any e = true → L e.on = true) →
      (∀ x w', Val v x → w.grownBy w' none → K (a.put (some d) x) w') → o.wp P a w K Q
  | .alc d => o.op = .alloc T ∧ o.dst = some d
  | .sto m p v => ∃ q n, o.op = .store T (.tmp p) (.tmp q) ∧ o.dst = none ∧ ks[n]? = some (.val q v) ∧ ks[m]? = some (.alc p) ∧ waits o n = true ∧ waits o m = true
  | .old p B u v => ∃ q n, o.op = .store T (.tmp p) (.tmp q) ∧ o.dst = none ∧ ks[n]? = some (.val q v) ∧ waits o n = true

theorem getD_put_same (a : Act) (d : Nat) (x : Value) (h : d < a.tmps.size) : (a.put (some d) x).tmps.getD d undef = x := by simp [Act.put, h]
theorem getD_put_ne (a : Act) (d s : Nat) (x : Value) (h : d ≠ s) : (a.put (some d) x).tmps.getD s undef = a.tmps.getD s undef := by
  simp [Act.put, Array.getElem?_setIfInBounds_ne h]
theorem get?_put_ne (a : Act) (d s : Nat) (x : Value) (h : d ≠ s) : (a.put (some d) x).tmps[s]? = a.tmps[s]? := by
  simp [Act.put, Array.getElem?_setIfInBounds_ne h]

section
variable {wb w0 : World} {a0 : Act} {W D : List Nat} {ops : Array Oper} {ks : List Kd} {L : Nat → Bool} {a : Act} {w : World}

theorem setL {i j : Nat} (h : (j == i || L j) = true) : j = i ∨ (j ≠ i ∧ L j = true) := by
  by_cases e : j = i
  · exact Or.inl e
  · right
    have : (j == i) = false := by simpa using e
    rw [this, Bool.false_or] at h
    exact ⟨e, h⟩

theorem NInv.closed_step (I : NInv wb w0 a0 W D ops ks L a w) {i : Nat} {o : Oper} (ho : ops[i]? = some o) (hd : ∀ e ∈ o.after, Region.binds .any e = true → L e.on = true) :
    ∀ (j : Nat) (o' : Oper), ops[j]? = some o' → (j == i || L j) = true → ∀ e ∈ o'.after, Region.binds .any e = true → (e.on == i || L e.on) = true := by
  intro j o' hj hL e he hb
  rcases setL hL with rfl | ⟨_, hL⟩
  · rw [ho] at hj
    obtain rfl : o = o' := by simpa using hj
    simp [hd e he hb]
  · simp [I.closed j o' hj hL e he hb]

theorem NInv.stepVal (hk : okKinds W a0.tmps.size ks = true) (ol : Olds wb w0 a0 W D ks) (I : NInv wb w0 a0 W D ops ks L a w) {o : Oper} {i d v : Nat} (ho : ops[i]? = some o) (hdep : ∀ e ∈ o.after, Region.binds .any e = true → L e.on = true) (hi : ks[i]? = some (.val d v)) {x : Value} {w' : World} (hx : Val v x) (hg : w.grownBy w' none) :
    NInv wb w0 a0 W D ops ks (fun j => j == i || L j) (a.put (some d) x) w' := by
  have hd := (okKinds_at hk hi hi).1 d rfl
  have ne : ∀ j y d', ks[j]? = some y → j ≠ i → y.dst = some d' → d ≠ d' := fun j y d' hj hne hy e => by
    subst e
    exact ((okKinds_at hk hi hj).1 d rfl).2.2 (Ne.symm hne) hy
  refine ⟨grow_trans I.base hg, I.kept.grow hg (by simp), by simp [Act.put, I.size], by simp [Act.put, I.defs], fun s hs => ?_, I.closed_step ho hdep, ?_, ?_, ?_, ?_, ?_⟩
  · rw [get?_put_ne _ _ _ _ (fun e => hs (by rw [← e]; exact hd.1))]
    exact I.same s hs
  · intro j d' v' hj hL
    rcases setL hL with rfl | ⟨hne, hL⟩
    · rw [hi] at hj
      obtain ⟨rfl, rfl⟩ : d = d' ∧ v = v' := by simpa using hj
      rw [getD_put_same _ _ _ (by rw [I.size]; exact hd.2.1)]
      exact hx
    · rw [getD_put_ne _ _ _ _ (ne j _ d' hj hne rfl)]
      exact I.val j d' v' hj hL
  · intro j d' hj hL
    rcases setL hL with rfl | ⟨hne, hL⟩
    · rw [hi] at hj; cases hj
    · rw [getD_put_ne _ _ _ _ (ne j _ d' hj hne rfl)]
      obtain ⟨k, u, h1, h2, h3⟩ := I.alc j d' hj hL
      exact ⟨k, u, h1, h2, h3.keptN hg⟩
  · intro j m p v' hj hL
    rcases setL hL with rfl | ⟨hne, hL⟩
    · rw [hi] at hj; cases hj
    · obtain ⟨h0, h1, k, h2, h3, h4⟩ := I.sto j m p v' hj hL
      have hmi : m ≠ i := by intro e; subst e; rw [hi] at h1; cases h1
      rw [getD_put_ne _ _ _ _ (ne m _ p h1 hmi rfl)]
      exact ⟨by simp [h0], h1, k, h2, h3, h4.keptN hg⟩
  · intro j p B u v' hj
    have hne : j ≠ i := by intro e; subst e; rw [hi] at hj; cases hj
    have e : (j == i || L j) = L j := by have : (j == i) = false := by simpa using hne
                                         rw [this, Bool.false_or]
    rw [e]
    exact (I.old j p B u v' hj).keptN hg
  · intro j j' d1 d2 h1 h2 hne hL1 hL2
    rcases setL hL1 with rfl | ⟨hn1, hL1⟩
    · rw [hi] at h1; cases h1
    rcases setL hL2 with rfl | ⟨hn2, hL2⟩
    · rw [hi] at h2; cases h2
    rw [getD_put_ne _ _ _ _ (ne j _ d1 h1 hn1 rfl), getD_put_ne _ _ _ _ (ne j' _ d2 h2 hn2 rfl)]
    exact I.apart j j' d1 d2 h1 h2 hne hL1 hL2

theorem NInv.stepAlc (hk : okKinds W a0.tmps.size ks = true) (ol : Olds wb w0 a0 W D ks) (I : NInv wb w0 a0 W D ops ks L a w) {o : Oper} {i d : Nat} (ho : ops[i]? = some o) (hdep : ∀ e ∈ o.after, Region.binds .any e = true → L e.on = true) (hLi : L i = false) (hi : ks[i]? = some (.alc d)) {w' : World} (hg : w.grownBy w' none) (hn : NV w' w.heap.size 0) :
    NInv wb w0 a0 W D ops ks (fun j => j == i || L j) (a.put (some d) (ptrTo w.heap.size)) w' := by
  have hd := (okKinds_at hk hi hi).1 d rfl
  have ne : ∀ j y d', ks[j]? = some y → j ≠ i → y.dst = some d' → d ≠ d' := fun j y d' hj hne hy e => by
    subst e
    exact ((okKinds_at hk hi hj).1 d rfl).2.2 (Ne.symm hne) hy
  have old : ∀ j d', ks[j]? = some (.alc d') → L j = true → a.tmps.getD d' undef ≠ ptrTo w.heap.size := fun j d' hj hL e => by
    obtain ⟨k, u, h1, _, h3⟩ := I.alc j d' hj hL
    rw [h1] at e
    have : k = w.heap.size := by unfold ptrTo at e; injection e with e; injection e with e; injection e
    have := h3.lt
    omega
  refine ⟨grow_trans I.base hg, I.kept.grow hg (by simp), by simp [Act.put, I.size], by simp [Act.put, I.defs], fun s hs => ?_, I.closed_step ho hdep, ?_, ?_, ?_, ?_, ?_⟩
  · rw [get?_put_ne _ _ _ _ (fun e => hs (by rw [← e]; exact hd.1))]
    exact I.same s hs
  · intro j d' v' hj hL
    rcases setL hL with rfl | ⟨hne, hL⟩
    · rw [hi] at hj; cases hj
    · rw [getD_put_ne _ _ _ _ (ne j _ d' hj hne rfl)]
      exact I.val j d' v' hj hL
  · intro j d' hj hL
    rcases setL hL with rfl | ⟨hne, hL⟩
    · rw [hi] at hj
      obtain rfl : d = d' := by simpa using hj
      rw [getD_put_same _ _ _ (by rw [I.size]; exact hd.2.1)]
      exact ⟨w.heap.size, 0, rfl, I.kept.size, hn⟩
    · rw [getD_put_ne _ _ _ _ (ne j _ d' hj hne rfl)]
      obtain ⟨k, u, h1, h2, h3⟩ := I.alc j d' hj hL
      exact ⟨k, u, h1, h2, h3.keptN hg⟩
  · intro j m p v' hj hL
    rcases setL hL with rfl | ⟨hne, hL⟩
    · rw [hi] at hj; cases hj
    · obtain ⟨h0, h1, k, h2, h3, h4⟩ := I.sto j m p v' hj hL
      by_cases hmi : m = i
      · subst hmi
        rw [hi] at h1
        obtain rfl : d = p := by simpa using h1
        rw [hLi] at h0
        cases h0
      · rw [getD_put_ne _ _ _ _ (ne m _ p h1 hmi rfl)]
        exact ⟨by simp [h0], h1, k, h2, h3, h4.keptN hg⟩
  · intro j p B u v' hj
    have hne : j ≠ i := by intro e; subst e; rw [hi] at hj; cases hj
    have e : (j == i || L j) = L j := by have : (j == i) = false := by simpa using hne
                                         rw [this, Bool.false_or]
    rw [e]
    exact (I.old j p B u v' hj).keptN hg
  · intro j j' d1 d2 h1 h2 hne hL1 hL2
    rcases setL hL1 with rfl | ⟨hn1, hM1⟩
    · rcases setL hL2 with rfl | ⟨hn2, hL2⟩
      · exact absurd rfl hne
      · rw [hi] at h1
        obtain rfl : d = d1 := by simpa using h1
        rw [getD_put_same _ _ _ (by rw [I.size]; exact hd.2.1), getD_put_ne _ _ _ _ (ne j' _ d2 h2 hn2 rfl)]
        exact fun e => old j' d2 h2 hL2 e.symm
    · rcases setL hL2 with rfl | ⟨hn2, hL2⟩
      · rw [hi] at h2
        obtain rfl : d = d2 := by simpa using h2
        rw [getD_put_same _ _ _ (by rw [I.size]; exact hd.2.1), getD_put_ne _ _ _ _ (ne j _ d1 h1 hn1 rfl)]
        exact old j d1 h1 hM1
      · rw [getD_put_ne _ _ _ _ (ne j _ d1 h1 hn1 rfl), getD_put_ne _ _ _ _ (ne j' _ d2 h2 hn2 rfl)]
        exact I.apart j j' d1 d2 h1 h2 hne hM1 hL2

theorem NInv.stepSto (hk : okKinds W a0.tmps.size ks = true) (ol : Olds wb w0 a0 W D ks) (I : NInv wb w0 a0 W D ops ks L a w) {o : Oper} {i m p v k : Nat} (ho : ops[i]? = some o) (hdep : ∀ e ∈ o.after, Region.binds .any e = true → L e.on = true) (hLi : L i = false) (hi : ks[i]? = some (.sto m p v)) (hm : ks[m]? = some (.alc p)) (hLm : L m = true)
    (hp : a.tmps.getD p undef = ptrTo k) (hk0 : w0.heap.size ≤ k) {w' : World} (hg : w.grownBy w' (some k)) (hn : NV w' k v) :
    NInv wb w0 a0 W D ops ks (fun j => j == i || L j) a w' := by
  refine ⟨grow_trans_new I.base hg (by have := ol.base; omega), I.kept.grow hg (fun b e => Or.inl (by injection e with e; omega)), I.size, I.defs, I.same, I.closed_step ho hdep, ?_, ?_, ?_, ?_, ?_⟩
  · intro j d' v' hj hL
    rcases setL hL with rfl | ⟨hne, hL⟩
    · rw [hi] at hj; cases hj
    · exact I.val j d' v' hj hL
  · intro j d' hj hL
    rcases setL hL with rfl | ⟨hne, hL⟩
    · rw [hi] at hj; cases hj
    · obtain ⟨k', u, h1, h2, h3⟩ := I.alc j d' hj hL
      by_cases e : k' = k
      · subst e
        exact ⟨k', v, h1, h2, hn⟩
      · exact ⟨k', u, h1, h2, h3.kept hg (by simpa using e)⟩
  · intro j m' p' v' hj hL
    rcases setL hL with rfl | ⟨hne, hL⟩
    · rw [hi] at hj
      obtain ⟨rfl, rfl, rfl⟩ : m = m' ∧ p = p' ∧ v = v' := by simpa using hj
      exact ⟨by simp [hLm], hm, k, hp, hk0, hn⟩
    · obtain ⟨h0, h1, k', h2, h3, h4⟩ := I.sto j m' p' v' hj hL
      have hmm : m' ≠ m := (okKinds_at hk hj hi).2 _ _ _ _ _ _ rfl rfl hne
      have hkk : k' ≠ k := by
        intro e
        subst e
        exact I.apart m' m p' p h1 hm hmm h0 hLm (by rw [h2, hp])
      exact ⟨by simp [h0], h1, k', h2, h3, h4.kept hg (by simpa using hkk)⟩
  · intro j p' B u v' hj
    have hne : j ≠ i := by intro e; subst e; rw [hi] at hj; cases hj
    have e : (j == i || L j) = L j := by have : (j == i) = false := by simpa using hne
                                         rw [this, Bool.false_or]
    rw [e]
    have hB := (ol.lies j p' B u v' hj).2.1
    exact (I.old j p' B u v' hj).kept hg (by simp; omega)
  · intro j j' d1 d2 h1 h2 hne hL1 hL2
    rcases setL hL1 with rfl | ⟨hn1, hL1⟩
    · rw [hi] at h1; cases h1
    rcases setL hL2 with rfl | ⟨hn2, hL2⟩
    · rw [hi] at h2; cases h2
    exact I.apart j j' d1 d2 h1 h2 hne hL1 hL2

theorem NInv.stepOld (ol : Olds wb w0 a0 W D ks) (I : NInv wb w0 a0 W D ops ks L a w) {o : Oper} {i p B u v : Nat} (ho : ops[i]? = some o) (hdep : ∀ e ∈ o.after, Region.binds .any e = true → L e.on = true) (hi : ks[i]? = some (.old p B u v))
    {w' : World} (hg : w.grownBy w' (some B)) (hn : NV w' B v) : NInv wb w0 a0 W D ops ks (fun j => j == i || L j) a w' := by
  obtain ⟨b1, b2, b3, _, _⟩ := ol.lies i p B u v hi
  refine ⟨grow_trans_new I.base hg b3, I.kept.grow hg (fun b e => Or.inr (by injection e with e; subst e; exact b1)), I.size, I.defs, I.same, I.closed_step ho hdep, ?_, ?_, ?_, ?_, ?_⟩
  · intro j d' v' hj hL
    rcases setL hL with rfl | ⟨hne, hL⟩
    · rw [hi] at hj; cases hj
    · exact I.val j d' v' hj hL
  · intro j d' hj hL
    rcases setL hL with rfl | ⟨hne, hL⟩
    · rw [hi] at hj; cases hj
    · obtain ⟨k', u, h1, h2, h3⟩ := I.alc j d' hj hL
      exact ⟨k', u, h1, h2, h3.kept hg (by simp; omega)⟩
  · intro j m' p' v' hj hL
    rcases setL hL with rfl | ⟨hne, hL⟩
    · rw [hi] at hj; cases hj
    · obtain ⟨h0, h1, k', h2, h3, h4⟩ := I.sto j m' p' v' hj hL
      exact ⟨by simp [h0], h1, k', h2, h3, h4.kept hg (by simp; omega)⟩
  · intro j p' B' u' v' hj
    by_cases hne : j = i
    · subst hne
      rw [hi] at hj
      obtain ⟨rfl, rfl, rfl, rfl⟩ : p = p' ∧ B = B' ∧ u = u' ∧ v = v' := by simpa using hj
      simp [hn]
    · have e : (j == i || L j) = L j := by
        have : (j == i) = false := by simpa using hne
        rw [this, Bool.false_or]
      rw [e]
      have hB := ol.differ i j p B u v p' B' u' v' hi hj (fun e => hne e.symm)
      exact (I.old j p' B' u' v' hj).kept hg (by simp; exact fun e => hB e.symm)
  · intro j j' d1 d2 h1 h2 hne hL1 hL2
    rcases setL hL1 with rfl | ⟨hn1, hL1⟩
    · rw [hi] at h1; cases h1
    rcases setL hL2 with rfl | ⟨hn2, hL2⟩
    · rw [hi] at h2; cases h2
    exact I.apart j j' d1 d2 h1 h2 hne hL1 hL2

end

theorem zero_nv (w : World) : NV (w.alloc (.cells #[.int .u64 0, .int .u64 0, .int .u64 0, .int .u64 0, .int .u64 0] 144)) w.heap.size 0 :=
  ⟨[0, 0, 0, 0, 0], obj_new w _, ⟨0, [0, 0, 0, 0], rfl, rfl, by omega, by simp⟩, by decide +kernel⟩

theorem nb_setCells {w : World} {B : Nat} {l l' : List Nat} (h : NB w B l) (e : l'.length = l.length) : NB (w.setCells B 0 (l'.map c64)) B l' := by
  rcases setCells_obj B (l'.map c64) 0 w (l.map c64) _ h with h1 | h1
  · have q : ((l.map c64).take 0 ++ l'.map c64 ++ (l.map c64).drop (0 + (l'.map c64).length)).take (l.map c64).length = l'.map c64 := by
      rw [List.take_zero, List.nil_append, Nat.zero_add, List.drop_of_length_le (by simp; omega), List.append_nil, List.take_of_length_le (by simp; omega)]
    rw [q] at h1
    exact h1
  · simp at h1
    omega

theorem num_under : Tryz.prog.underlying 144 = some (.array 5 97) := Tryz.underlying144
theorem num_size : (Tryz.prog.info? 144).map (·.size) = some 5 := by kernel_rfl
theorem num_zero (w : World) : (Instr.alloc 144 true (.tuple #[])).run Tryz.prog w = .ok (.pointer (some ⟨w.heap.size, 0, none⟩)) (w.alloc (.cells #[.int .u64 0, .int .u64 0, .int .u64 0, .int .u64 0, .int .u64 0] 144)) := by kernel_rfl

theorem wp_alc {o : Oper} {a : Act} {w : World} {K : Act → World → Prop} {Q : Exit → Act → World → Prop} {d : Nat} (ho : o.op = .alloc 144) (hd : o.dst = some d)
    (h : K (a.put (some d) (ptrTo w.heap.size)) (w.alloc (.cells #[.int .u64 0, .int .u64 0, .int .u64 0, .int .u64 0, .int .u64 0] 144))) : o.wp Tryz.prog a w K Q := by
  unfold Oper.wp execOp
  simp only [ho, Sem.run_bind, Sem.run_pure, Result.andThen_ok, num_zero]
  show K (a.put o.dst _) _
  rw [hd]
  exact h

theorem wp_sto {o : Oper} {a : Act} {w : World} {K : Act → World → Prop} {Q : Exit → Act → World → Prop} {p q k v : Nat} {u : Nat} (ho : o.op = .store 144 (.tmp p) (.tmp q)) (hd : o.dst = none)
    (hp : a.tmps.getD p undef = ptrTo k) (hk : NV w k u) (hq : Val v (a.tmps.getD q undef)) (h : ∀ w', w.grownBy w' (some k) → NV w' k v → K a w') : o.wp Tryz.prog a w K Q := by
  obtain ⟨l, hl, ok, hv⟩ := hq
  obtain ⟨l0, hb, ok0, _⟩ := hk
  have h5 := ok.length
  have h50 := ok0.length
  refine wp_store_mid 144 _ _ ho k 0 (l.map c64).toArray hp hl (Blk.there hb _ (by simp [h5, h50])) (by rw [num_size]; simp [h5]) (all_oneCell_toArray (by intro x hx; obtain ⟨n, _, rfl⟩ := List.mem_map.1 hx; rfl)) ?_
  rw [hd]
  refine h _ (grow_setCells k _ _ _ _ (grow_refl w _)) ⟨l, ?_, ok, hv⟩
  exact nb_setCells hb (by rw [h5, h50])

theorem wp_val_load {o : Oper} {a : Act} {w : World} {K : Act → World → Prop} {Q : Exit → Act → World → Prop} {p d k v : Nat} (ho : o.op = .load 144 (.tmp p)) (hd : o.dst = some d)
    (hp : a.tmps.getD p undef = ptrTo k) (hk : NV w k v) (h : ∀ x, Val v x → K (a.put (some d) x) w) : o.wp Tryz.prog a w K Q := by
  obtain ⟨l, hb, ok, hv⟩ := hk
  have h5 := ok.length
  refine wp_load_mid 144 _ ho k 0 hp (l.map c64) _ (Blk.range hb) num_under rfl (by rw [num_size]; simp [h5]) ?_
  rw [hd]
  exact h _ ⟨l, rfl, ok, hv⟩

theorem wp_val_build {o : Oper} {a : Act} {w : World} {K : Act → World → Prop} {Q : Exit → Act → World → Prop} {d : Nat} (ho : o.op = .build 144 #[]) (hd : o.dst = some d)
    (h : ∀ x, Val 0 x → K (a.put (some d) x) w) : o.wp Tryz.prog a w K Q := by
  have e : ∀ w, (Instr.build 144 #[]).run Tryz.prog w = .ok (N5 [0, 0, 0, 0, 0]) w := fun w => by kernel_rfl
  unfold Oper.wp execOp
  simp only [ho, Array.map_empty, Sem.run_bind, Sem.run_pure, Result.andThen_ok, e]
  show K (a.put o.dst _) _
  rw [hd]
  exact h _ ⟨[0, 0, 0, 0, 0], rfl, ⟨0, [0, 0, 0, 0], rfl, rfl, by omega, by simp⟩, by decide +kernel⟩

/-- A callee of two numbers. -/
def NTwo (f : Nat) (x y v : Nat) : Prop := ∀ (w : World) (p q : Value), Val x p → Val y q → Calls Tryz.prog f #[p, q] w fun e w' => ∃ z, e = .returned z ∧ Val v z ∧ w.grownBy w' none
def None0 (f : Nat) (v : Nat) : Prop := ∀ (w : World), Calls Tryz.prog f #[] w fun e w' => ∃ z, e = .returned z ∧ Val v z ∧ w.grownBy w' none

theorem wp_val_two {o : Oper} {a : Act} {w : World} {K : Act → World → Prop} {Q : Exit → Act → World → Prop} {p q d f x y v : Nat} {ts : Array TypeId} (hf : NTwo f x y v)
    (hx : (execOp a.eval o).run Tryz.prog w = .ok (.enter f #[a.tmps.getD p undef, a.tmps.getD q undef]) w) (hd : o.dst = some d)
    (hp : Val x (a.tmps.getD p undef)) (hq : Val y (a.tmps.getD q undef)) (h : ∀ z w', Val v z → w.grownBy w' none → K (a.put (some d) z) w') : o.wp Tryz.prog a w K Q := by
  unfold Oper.wp
  rw [hx, Oper.upon_enter]
  refine (hf w _ _ hp hq).mono ?_
  rintro e w' ⟨z, rfl, hz, hg⟩
  show K (a.put o.dst _) _
  rw [hd]
  exact h z w' hz hg

theorem wp_val_none {o : Oper} {a : Act} {w : World} {K : Act → World → Prop} {Q : Exit → Act → World → Prop} {d f v : Nat} (hf : None0 f v)
    (hx : (execOp a.eval o).run Tryz.prog w = .ok (.enter f #[]) w) (hd : o.dst = some d) (h : ∀ z w', Val v z → w.grownBy w' none → K (a.put (some d) z) w') : o.wp Tryz.prog a w K Q := by
  unfold Oper.wp
  rw [hx, Oper.upon_enter]
  refine (hf w).mono ?_
  rintro e w' ⟨z, rfl, hz, hg⟩
  show K (a.put o.dst _) _
  rw [hd]
  exact h z w' hz hg

theorem wpOp_plain {P : Program} {ops : Array Oper} {Q : Exit → Act → World → Prop} {i : Nat} {o : Oper} {K : Act → World → Prop} {a : Act} {w : World} (ho : ops[i]? = some o) (hg : o.guard = none) (h : o.wp P a w K Q) : wpOp P ops Q i K a w := by
  unfold wpOp
  simp only [ho]
  rw [if_pos (by unfold Region.wanted; rw [hg])]
  exact Or.inl h

def putAll (a : Act) : List Nat → List Value → Act
  | s :: r, v :: vs => putAll (a.put (some s) v) r vs
  | _, _ => a

theorem putAll_spec : ∀ (W : List Nat) (a0 a : Act), a.tmps.size = a0.tmps.size → a.defers = a0.defers → (∀ s, s ∉ W → a.tmps[s]? = a0.tmps[s]?) → ∃ vs, vs.length = W.length ∧ a = putAll a0 W vs
  | [], a0, a, h1, h2, h3 => ⟨[], rfl, by
      cases a; cases a0
      simp only at h1 h2 h3
      subst h2
      have : ∀ (x y : Array Value), (∀ s : Nat, x[s]? = y[s]?) → x = y := fun x y h => Array.ext_getElem? h
      rw [this _ _ (fun s => h3 s (by simp))]
      rfl⟩
  | s :: W, a0, a, h1, h2, h3 => by
    obtain ⟨vs, hl, e⟩ := putAll_spec W (a0.put (some s) (a.tmps.getD s undef)) a (by simp [Act.put, h1]) (by simp [Act.put, h2]) (fun t ht => by
      by_cases hts : s = t
      · subst hts
        by_cases hlt : s < a0.tmps.size
        · simp [Act.put, hlt, h1]
        · simp [Act.put, Array.getElem?_eq_none (show a.tmps.size ≤ s by omega), hlt]
      · rw [get?_put_ne _ _ _ _ hts]
        exact h3 t (by simp [ht]; exact fun e => hts e.symm))
    exact ⟨a.tmps.getD s undef :: vs, by simp [hl], e⟩

theorem nums_step {ops : Array Oper} {Q : Exit → Act → World → Prop} {wb w0 : World} {a0 : Act} {W D : List Nat} {ks : List Kd} (hks : ks.length = ops.size) (hk : okKinds W a0.tmps.size ks = true) (ol : Olds wb w0 a0 W D ks)
    (hf : ∀ (i : Nat) (o : Oper) (k : Kd), ops[i]? = some o → ks[i]? = some k → Fits Tryz.prog 144 ops Q wb w0 a0 W D ks i o k)
    (L : Nat → Bool) (i : Nat) (o : Oper) (a : Act) (w : World) (ho : ops[i]? = some o) (hLi : L i = false) (hdeps : ∀ e ∈ o.after, Region.binds .any e = true → L e.on = true) (I : NInv wb w0 a0 W D ops ks L a w) :
    o.wp Tryz.prog a w (NInv wb w0 a0 W D ops ks fun j => j == i || L j) Q := by
  have hi : i < ks.length := by rw [hks]; exact (Array.getElem?_eq_some_iff.1 ho).1
  have hki : ks[i]? = some ks[i] := by simp [hi]
  have F := hf i o ks[i] ho hki
  generalize ks[i] = k at *
  cases k with
  | val d v =>
    exact F L a w _ I hLi hdeps fun x w2 hx hg2 => I.stepVal hk ol ho hdeps hki hx hg2
  | alc d =>
    exact wp_alc F.1 F.2 (I.stepAlc hk ol ho hdeps hLi hki (World.grownBy_alloc _ _ _) (zero_nv _))
  | sto m p v =>
    obtain ⟨q, n, h1, h2, h3, h4, w1, w2⟩ := F
    have hLn : L n = true := waits_spec w1 hdeps
    have hLm : L m = true := waits_spec w2 hdeps
    obtain ⟨k, u, c1, c2, c3⟩ := I.alc m p h4 hLm
    exact wp_sto h1 h2 c1 c3 (I.val n q v h3 hLn) fun w2 g2 n2 => I.stepSto hk ol ho hdeps hLi hki h4 hLm c1 c2 g2 n2
  | old p B u v =>
    obtain ⟨q, n, h1, h2, h3, w1⟩ := F
    have hLn : L n = true := waits_spec w1 hdeps
    obtain ⟨b1, b2, b3, b4, b5⟩ := ol.lies i p B u v hki
    have hp : a.tmps.getD p undef = ptrTo B := by
      rw [← b5]
      have := I.same p b4
      simp only [Array.getD_eq_getD_getElem?, this]
    exact wp_sto h1 h2 hp (I.old i p B u v hki) (I.val n q v h3 hLn) fun w2 g2 n2 => I.stepOld ol ho hdeps hki g2 n2

/-- What holds behind the region. -/
def Done (wb w0 : World) (a0 : Act) (W D : List Nat) (ops : Array Oper) (ks : List Kd) (a : Act) (w : World) : Prop := NInv wb w0 a0 W D ops ks (fun _ => true) a w

theorem nums_fin {ops : Array Oper} {wb w0 : World} {a0 : Act} {W D : List Nat} {ks : List Kd} (hks : ks.length = ops.size) {L : Nat → Bool} {a : Act} {w : World} (hL : ∀ i, i < ops.size → L i = true) (I : NInv wb w0 a0 W D ops ks L a w) :
    ∃ vs, vs.length = W.length ∧ a = putAll a0 W vs ∧ Done wb w0 a0 W D ops ks a w := by
  obtain ⟨vs, hl, e⟩ := putAll_spec W a0 a I.size I.defs I.same
  have lt : ∀ i x, ks[i]? = some x → L i = true := fun i x h => hL i (by rw [← hks]; exact (List.getElem?_eq_some_iff.1 h).1)
  exact ⟨vs, hl, e, I.base, I.kept, I.size, I.defs, I.same, fun _ _ _ _ _ _ _ => rfl, fun i d v h _ => I.val i d v h (lt i _ h), fun i d h _ => I.alc i d h (lt i _ h),
    fun i m p v h _ => ⟨rfl, (I.sto i m p v h (lt i _ h)).2⟩, fun i p B u v h => by have := I.old i p B u v h; rw [if_pos (lt i _ h)] at this; simpa using this,
    fun i j d d' h1 h2 hne _ _ => I.apart i j d d' h1 h2 hne (lt i _ h1) (lt j _ h2)⟩

theorem nums_start {ops : Array Oper} {wb w0 w : World} {a0 : Act} {W D : List Nat} {ks : List Kd} (hb : wb.grownBy w none) (hk : KeptBut D w0 w) (ho : ∀ (i p B u v : Nat), ks[i]? = some (.old p B u v) → NV w B u) : NInv wb w0 a0 W D ops ks (fun _ => false) a0 w :=
  ⟨hb, hk, rfl, rfl, fun _ _ => rfl, fun _ _ _ h => by simp at h, fun _ _ _ _ h => by simp at h, fun _ _ _ h => by simp at h, fun _ _ _ _ _ h => by simp at h, fun i p B u v h => by simpa using ho i p B u v h, fun _ _ _ _ _ _ _ h => by simp at h⟩

theorem region_nums {ops : Array Oper} {Q : Exit → Act → World → Prop} {id : Nat} {a0 : Act} {wb w : World} (W D : List Nat) (ks : List Kd) (hks : ks.length = ops.size) (hk : okKinds W a0.tmps.size ks = true) (ol : Olds wb w a0 W D ks) (hm : Tryz.prog.follows .mixedOrders = true) (he : earlierB .any ops = true)
    (hg : ops.all (fun o => o.guard.isNone) = true) (hb : wb.grownBy w none) (ho : ∀ (i p B u v : Nat), ks[i]? = some (.old p B u v) → NV w B u)
    (hf : ∀ (i : Nat) (o : Oper) (k : Kd), ops[i]? = some o → ks[i]? = some k → Fits Tryz.prog 144 ops Q wb w a0 W D ks i o k)
    (fin : ∀ (vs : List Value) (w' : World), vs.length = W.length → Done wb w a0 W D ops ks (putAll a0 W vs) w' → Q .normal (putAll a0 W vs) w') : (Code.region id ops true).wp Tryz.prog Q a0 w := by
  refine wp_region_inv hm he (NInv wb w a0 W D ops ks) ?_ ?_ (nums_start (grow_drew hb) ⟨Nat.le_refl _, fun _ _ _ => rfl⟩ ho)
  · intro L i o a w' ho hLi hdeps I
    exact wpOp_plain ho (by have := Array.all_eq_true_iff_forall_mem.1 hg o (Array.mem_of_getElem? ho); simpa using this) (nums_step hks hk ol hf L i o a w' ho hLi hdeps I)
  · intro L a w' hL I
    obtain ⟨vs, hl, e, hd⟩ := nums_fin hks hL I
    subst e
    exact fin vs w' hl hd

theorem nums_list {ops : Array Oper} {Q : Exit → Act → World → Prop} {wb w0 : World} {a0 : Act} {W D : List Nat} {ks : List Kd} (hks : ks.length = ops.size) (hk : okKinds W a0.tmps.size ks = true) (ol : Olds wb w0 a0 W D ks) (he : earlierB .any ops = true)
    (hg : ops.all (fun o => o.guard.isNone) = true)
    (hf : ∀ (i : Nat) (o : Oper) (k : Kd), ops[i]? = some o → ks[i]? = some k → Fits Tryz.prog 144 ops Q wb w0 a0 W D ks i o k)
    (fin : ∀ (L : Nat → Bool) (a : Act) (w' : World), (∀ i, i < ops.size → L i = true) → NInv wb w0 a0 W D ops ks L a w' → Q .normal a w') :
    ∀ (l : List Oper) (k : Nat), (∀ j, l[j]? = ops[k + j]?) → k + l.length = ops.size → ∀ (a : Act) (w : World), NInv wb w0 a0 W D ops ks (fun j => decide (j < k)) a w → wpList Tryz.prog ops Q l a w
  | [], k, _, hn, a, w, I => fin _ a w (fun i hi => by simp at hn; simp; omega) I
  | o :: l, k, hl, hn, a, w, I => by
    have ho : ops[k]? = some o := by simpa using (hl 0).symm
    refine wpList_plain (by have := Array.all_eq_true_iff_forall_mem.1 hg o (Array.mem_of_getElem? ho); simpa using this) fun K hK => ?_
    refine Oper.wp_mono (fun a w h => hK a w h) (Oper.wp_mono (fun a w I' => ?_) (nums_step hks hk ol hf (fun j => decide (j < k)) k o a w ho (by simp) (fun e h1 h2 => by have := earlierB_spec he ho e h1 h2; simpa using this) I))
    refine nums_list hks hk ol he hg hf fin l (k + 1) (fun j => by have := hl (j + 1); simpa [Nat.add_assoc, Nat.add_comm 1 j] using this) (by simp at hn; omega) a w ?_
    have e : (fun j => decide (j < k + 1)) = (fun j => j == k || decide (j < k)) := by
      funext j
      by_cases h : j = k
      · subst h; simp
      · have : (j == k) = false := by simpa using h
        rw [this, Bool.false_or]
        congr 1
        exact propext ⟨fun q => by omega, fun q => by omega⟩
    rw [e]
    exact I'

/-- .. a plain region. -/
theorem plain_nums {l : List Oper} {Q : Exit → Act → World → Prop} {id : Nat} {a0 : Act} {wb w : World} (W D : List Nat) (ks : List Kd) (hks : ks.length = l.toArray.size) (hk : okKinds W a0.tmps.size ks = true) (ol : Olds wb w a0 W D ks) (he : earlierB .any l.toArray = true)
    (hg : l.toArray.all (fun o => o.guard.isNone) = true) (hb : wb.grownBy w none) (ho : ∀ (i p B u v : Nat), ks[i]? = some (.old p B u v) → NV w B u)
    (hf : ∀ (i : Nat) (o : Oper) (k : Kd), l.toArray[i]? = some o → ks[i]? = some k → Fits Tryz.prog 144 l.toArray Q wb w a0 W D ks i o k)
    (fin : ∀ (vs : List Value) (w' : World), vs.length = W.length → Done wb w a0 W D l.toArray ks (putAll a0 W vs) w' → Q .normal (putAll a0 W vs) w') : (Code.region id l.toArray false).wp Tryz.prog Q a0 w := by
  refine wp_region_lit ?_
  refine nums_list hks hk ol he hg hf ?_ l 0 (fun j => by simp) (by simp) a0 w ?_
  · intro L a w' hL I
    obtain ⟨vs, hl, e, hd⟩ := nums_fin hks hL I
    subst e
    exact fin vs w' hl hd
  · have e : (fun j => decide (j < 0)) = (fun _ : Nat => false) := by funext j; simp
    rw [e]
    exact nums_start hb ⟨Nat.le_refl _, fun _ _ _ => rfl⟩ ho

section
variable {ops : Array Oper} {Q : Exit → Act → World → Prop} {wb w0 : World} {a0 : Act} {W D : List Nat} {ks : List Kd} {i : Nat} {o : Oper} {d v : Nat}

theorem getD_same {a : Act} {p : Nat} (h : a.tmps[p]? = a0.tmps[p]?) : a.tmps.getD p undef = a0.tmps.getD p undef := by simp only [Array.getD_eq_getD_getElem?, h]

theorem fits_load (p B : Nat) (hv : NV w0 B v) (ho : o.op = .load 144 (.tmp p)) (hd : o.dst = some d) (hp : p ∉ W) (h0 : a0.tmps.getD p undef = ptrTo B) (hB : B ∉ D) : Fits Tryz.prog 144 ops Q wb w0 a0 W D ks i o (.val d v) := by
  intro L a w K I hLi hdep hK
  exact wp_val_load ho hd (by rw [getD_same (I.same p hp)]; exact h0) (hv.keptBut I.kept hB) fun x hx => hK x w hx (grow_refl _ _)

theorem fits_load_old (p B n p' v' : Nat) (oj : Oper) (hj : ks[n]? = some (.old p' B v v')) (hoj : ops[n]? = some oj) (hw : waits oj i = true) (ho : o.op = .load 144 (.tmp p)) (hd : o.dst = some d) (hp : p ∉ W) (h0 : a0.tmps.getD p undef = ptrTo B) : Fits Tryz.prog 144 ops Q wb w0 a0 W D ks i o (.val d v) := by
  intro L a w K I hLi hdep hK
  have hLn : L n = false := by
    rcases hb : L n with _ | _
    · rfl
    · have := waits_spec hw (I.closed n oj hoj hb)
      rw [hLi] at this
      cases this
  have hv := I.old n p' B v v' hj
  rw [hLn] at hv
  exact wp_val_load ho hd (by rw [getD_same (I.same p hp)]; exact h0) (by simpa using hv) fun x hx => hK x w hx (grow_refl _ _)

theorem fits_two (f q1 q2 n1 n2 x y : Nat) (hf : NTwo f x y v) (hcall : ∀ (x y : Value) (w : World), (callFunc f #[x, y]).run Tryz.prog w = .ok (.enter f #[x, y]) w) (tys : Array TypeId)
    (ho : o.op = .call { callee := .value (.func f), args := #[.tmp q1, .tmp q2], argTypes := tys }) (hd : o.dst = some d) (k1 : ks[n1]? = some (.val q1 x)) (k2 : ks[n2]? = some (.val q2 y)) (w1 : waits o n1 = true) (w2 : waits o n2 = true) :
    Fits Tryz.prog 144 ops Q wb w0 a0 W D ks i o (.val d v) := by
  intro L a w K I hLi hdep hK
  refine wp_val_two (p := q1) (q := q2) (ts := #[]) hf ?_ hd (I.val n1 q1 x k1 (waits_spec w1 hdep)) (I.val n2 q2 y k2 (waits_spec w2 hdep)) hK
  unfold execOp
  simp only [ho, resolve, Deferred.ofValue, Act.eval, List.map_toArray, List.map_cons, List.map_nil, Sem.run_bind, Sem.run_pure, Result.andThen_ok, invoke]
  exact hcall _ _ _

theorem fits_none (f : Nat) (hf : None0 f v) (hcall : ∀ (w : World), (callFunc f #[]).run Tryz.prog w = .ok (.enter f #[]) w) (tys : Array TypeId)
    (ho : o.op = .call { callee := .value (.func f), args := #[], argTypes := tys }) (hd : o.dst = some d) : Fits Tryz.prog 144 ops Q wb w0 a0 W D ks i o (.val d v) := by
  intro L a w K I hLi hdep hK
  refine wp_val_none hf ?_ hd hK
  unfold execOp
  simp only [ho, resolve, Deferred.ofValue, Act.eval, List.map_toArray, List.map_nil, Sem.run_bind, Sem.run_pure, Result.andThen_ok, invoke]
  exact hcall _

theorem fits_build (ho : o.op = .build 144 #[]) (hd : o.dst = some d) : Fits Tryz.prog 144 ops Q wb w0 a0 W D ks i o (.val d 0) := by
  intro L a w K I hLi hdep hK
  exact wp_val_build ho hd fun x hx => hK x w hx (grow_refl _ _)

end
end Go.Proofs.YtmomfbkpniblgaaGreatDoor

namespace Go.Proofs.YtmomfbkpniblgaaGreatDoor
open Go.RowKit
set_option linter.unusedVariables false

def oldOf : Kd → Option (Nat × Nat × Nat × Nat)
  | .old p B u v => some (p, B, u, v)
  | _ => none

def OldOk (wb w : World) (a0 : Act) (W D : List Nat) (x : Nat × Nat × Nat × Nat) : Prop :=
  x.2.1 ∈ D ∧ x.2.1 < w.heap.size ∧ wb.heap.size ≤ x.2.1 ∧ x.1 ∉ W ∧ a0.tmps.getD x.1 undef = ptrTo x.2.1 ∧ NV w x.2.1 x.2.2.1

theorem nodup_filterMap_at : ∀ (ks : List Kd) (i j p B u v p' B' u' v' : Nat), ((ks.filterMap oldOf).map (·.2.1)).Nodup → ks[i]? = some (.old p B u v) → ks[j]? = some (.old p' B' u' v') → i ≠ j → B ≠ B'
  | [], i, j, _, _, _, _, _, _, _, _, _, h, _, _ => by simp at h
  | k :: ks, i, j, p, B, u, v, p', B', u', v', hn, h1, h2, hne => by
    have mem : ∀ (i p B u v : Nat), ks[i]? = some (.old p B u v) → B ∈ (ks.filterMap oldOf).map (·.2.1) := fun i p B u v h =>
      List.mem_map.2 ⟨(p, B, u, v), List.mem_filterMap.2 ⟨_, List.mem_of_getElem? h, rfl⟩, rfl⟩
    have tail : ((ks.filterMap oldOf).map (·.2.1)).Nodup := by
      rw [List.filterMap_cons] at hn
      split at hn
      · exact hn
      · rw [List.map_cons, List.nodup_cons] at hn
        exact hn.2
    match i, j, h1, h2, hne with
    | 0, 0, _, _, hne => exact absurd rfl hne
    | 0, j + 1, h1, h2, _ =>
      have e : k = .old p B u v := by simpa using h1
      subst e
      rw [List.filterMap_cons] at hn
      simp only [oldOf, List.map_cons, List.nodup_cons] at hn
      intro e
      subst e
      exact hn.1 (mem j p' B u' v' (by simpa using h2))
    | i + 1, 0, h1, h2, _ =>
      have e : k = .old p' B' u' v' := by simpa using h2
      subst e
      rw [List.filterMap_cons] at hn
      simp only [oldOf, List.map_cons, List.nodup_cons] at hn
      intro e
      subst e
      exact hn.1 (mem i p B u v (by simpa using h1))
    | i + 1, j + 1, h1, h2, hne => exact nodup_filterMap_at ks i j p B u v p' B' u' v' tail (by simpa using h1) (by simpa using h2) (by omega)

def FitsL (P : Program) (T : TypeId) (ops : Array Oper) (Q : Exit → Act → World → Prop) (wb w0 : World) (a0 : Act) (W D : List Nat) (ks : List Kd) : Nat → List Oper → List Kd → Prop
  | i, o :: l, k :: r => Fits P T ops Q wb w0 a0 W D ks i o k ∧ FitsL P T ops Q wb w0 a0 W D ks (i + 1) l r
  | _, _, _ => True
section
variable {P : Program} {T : TypeId} {ops : Array Oper} {Q : Exit → Act → World → Prop} {wb w0 : World} {a0 : Act} {W D : List Nat} {ks : List Kd}
theorem fitsL_cons {i : Nat} {o : Oper} {k : Kd} {l : List Oper} {r : List Kd} (h : Fits P T ops Q wb w0 a0 W D ks i o k) (t : FitsL P T ops Q wb w0 a0 W D ks (i + 1) l r) : FitsL P T ops Q wb w0 a0 W D ks i (o :: l) (k :: r) := ⟨h, t⟩
theorem fitsL_nil {i : Nat} : FitsL P T ops Q wb w0 a0 W D ks i [] [] := True.intro
theorem fitsL_spec : ∀ (l : List Oper) (r : List Kd) (n : Nat), FitsL P T ops Q wb w0 a0 W D ks n l r → ∀ (i : Nat) (o : Oper) (k : Kd), l[i]? = some o → r[i]? = some k → Fits P T ops Q wb w0 a0 W D ks (n + i) o k
  | [], _, _, _, i, _, _, h, _ => by simp at h
  | _ :: _, [], _, _, i, _, _, _, h => by simp at h
  | o :: l, k :: r, n, h, 0, o', k', h1, h2 => by
    obtain rfl : o = o' := by simpa using h1
    obtain rfl : k = k' := by simpa using h2
    exact h.1
  | o :: l, k :: r, n, h, i + 1, o', k', h1, h2 => by
    have := fitsL_spec l r (n + 1) h.2 i o' k' (by simpa using h1) (by simpa using h2)
    rwa [show n + 1 + i = n + (i + 1) from by omega] at this
end

theorem nums_region {l : List Oper} {b : Bool} {Q : Exit → Act → World → Prop} {id : Nat} {a0 : Act} {wb w : World} (W D : List Nat) (ks : List Kd) (os : List (Nat × Nat × Nat × Nat)) (hm : Tryz.prog.follows .mixedOrders = true)
    (hks : ks.length = l.length) (hk : okKinds W a0.tmps.size ks = true) (he : earlierB .any l.toArray = true) (hg : l.all (fun o => o.guard.isNone) = true)
    (hb : wb.grownBy w none) (eo : ks.filterMap oldOf = os) (ho : ∀ x ∈ os, OldOk wb w a0 W D x) (hn : (os.map (·.2.1)).Nodup)
    (hf : FitsL Tryz.prog 144 l.toArray Q wb w a0 W D ks 0 l ks)
    (fin : ∀ (vs : List Value) (w' : World), vs.length = W.length → Done wb w a0 W D l.toArray ks (putAll a0 W vs) w' → Q .normal (putAll a0 W vs) w') : (Code.region id l.toArray b).wp Tryz.prog Q a0 w := by
  subst eo
  have lies : ∀ (i p B u v : Nat), ks[i]? = some (.old p B u v) → OldOk wb w a0 W D (p, B, u, v) := fun i p B u v h => ho _ (List.mem_filterMap.2 ⟨_, List.mem_of_getElem? h, rfl⟩)
  have ol : Olds wb w a0 W D ks := ⟨hb.size, fun i p B u v h => by obtain ⟨h1, h2, h3, h4, h5, _⟩ := lies i p B u v h; exact ⟨h1, h2, h3, h4, h5⟩, fun i j p B u v p' B' u' v' => nodup_filterMap_at ks i j p B u v p' B' u' v' hn⟩
  have hf' : ∀ (i : Nat) (o : Oper) (k : Kd), l.toArray[i]? = some o → ks[i]? = some k → Fits Tryz.prog 144 l.toArray Q wb w a0 W D ks i o k := fun i o k h1 h2 => by
    have := fitsL_spec l ks 0 hf i o k (by simpa using h1) h2
    rwa [Nat.zero_add] at this
  cases b
  · exact plain_nums W D ks (by simpa using hks) hk ol he (by simpa using hg) hb (fun i p B u v h => (lies i p B u v h).2.2.2.2.2) hf' fin
  · exact region_nums W D ks (by simpa using hks) hk ol hm he (by simpa using hg) hb (fun i p B u v h => (lies i p B u v h).2.2.2.2.2) hf' fin

theorem follows_mixed : Tryz.prog.follows .mixedOrders = true := by kernel_rfl

theorem putAll_size : ∀ (W : List Nat) (vs : List Value) (a : Act), (putAll a W vs).tmps.size = a.tmps.size
  | [], _, _ => rfl
  | _ :: _, [], _ => rfl
  | s :: W, v :: vs, a => by
    rw [putAll, putAll_size W vs]
    simp [Act.put]
theorem putAll_out : ∀ (W : List Nat) (vs : List Value) (a : Act) (s : Nat), s ∉ W → (putAll a W vs).tmps.getD s undef = a.tmps.getD s undef
  | [], _, _, _, _ => rfl
  | _ :: _, [], _, _, _ => rfl
  | t :: W, v :: vs, a, s, h => by
    rw [putAll, putAll_out W vs _ s (fun e => h (by simp [e])), getD_put_ne _ _ _ _ (fun e => h (by simp [e]))]
theorem putAll_at : ∀ (W : List Nat) (vs : List Value) (a : Act) (j s : Nat), W.Nodup → W[j]? = some s → vs.length = W.length → s < a.tmps.size → (putAll a W vs).tmps.getD s undef = vs.getD j undef
  | [], _, _, _, _, _, h, _, _ => by simp at h
  | _ :: _, [], _, _, _, _, _, h, _ => by simp at h
  | t :: W, v :: vs, a, 0, s, hn, h, hl, hs => by
    obtain rfl : t = s := by simpa using h
    rw [putAll, putAll_out W vs _ t (List.nodup_cons.1 hn).1, getD_put_same _ _ _ hs]
    rfl
  | t :: W, v :: vs, a, j + 1, s, hn, h, hl, hs => by
    rw [putAll, putAll_at W vs _ j s (List.nodup_cons.1 hn).2 (by simpa using h) (by simpa using hl) (by simpa [Act.put] using hs)]
    rfl

theorem Done.new2 {wb w0 : World} {a0 : Act} {W D : List Nat} {ops : Array Oper} {ks : List Kd} {vs : List Value} {w : World} (h : Done wb w0 a0 W D ops ks (putAll a0 W vs) w) (hl : vs.length = W.length) (hn : W.Nodup) (hs : ∀ s ∈ W, s < a0.tmps.size)
    (i m p v j : Nat) (hi : ks[i]? = some (.sto m p v)) (hj : W[j]? = some p) : ∃ k, vs.getD j undef = ptrTo k ∧ w0.heap.size ≤ k ∧ NV w k v := by
  obtain ⟨k, e, h1, h2⟩ := (h.sto i m p v hi rfl).2.2
  rw [putAll_at W vs a0 j p hn hj hl (hs p (List.mem_of_getElem? hj))] at e
  exact ⟨k, e, h1, h2⟩
theorem Done.apart2 {wb w0 : World} {a0 : Act} {W D : List Nat} {ops : Array Oper} {ks : List Kd} {vs : List Value} {w : World} (h : Done wb w0 a0 W D ops ks (putAll a0 W vs) w) (hl : vs.length = W.length) (hn : W.Nodup) (hs : ∀ s ∈ W, s < a0.tmps.size)
    (i i' d d' j j' k k' : Nat) (hi : ks[i]? = some (.alc d)) (hi' : ks[i']? = some (.alc d')) (hne : i ≠ i') (hj : W[j]? = some d) (hj' : W[j']? = some d') (hk : vs.getD j undef = ptrTo k) (hk' : vs.getD j' undef = ptrTo k') : k ≠ k' := by
  have := h.apart i i' d d' hi hi' hne rfl rfl
  rw [putAll_at W vs a0 j d hn hj hl (hs d (List.mem_of_getElem? hj)), putAll_at W vs a0 j' d' hn hj' hl (hs d' (List.mem_of_getElem? hj')), hk, hk'] at this
  intro e
  rw [e] at this
  exact this rfl

section
variable {wb w0 : World} {a0 : Act} {W D : List Nat} {ops : Array Oper} {ks : List Kd} {a : Act} {w : World}
theorem Done.new (h : Done wb w0 a0 W D ops ks a w) (i m p v : Nat) (hi : ks[i]? = some (.sto m p v)) : ∃ k, a.tmps.getD p undef = ptrTo k ∧ w0.heap.size ≤ k ∧ NV w k v := (h.sto i m p v hi rfl).2.2
theorem Done.was (h : Done wb w0 a0 W D ops ks a w) (i p B u v : Nat) (hi : ks[i]? = some (.old p B u v)) : NV w B v := by simpa using h.old i p B u v hi
theorem Done.keep (h : Done wb w0 a0 W D ops ks a w) {B v : Nat} (hv : NV w0 B v) (hB : B ∉ D) : NV w B v := hv.keptBut h.kept hB
end

end Go.Proofs.YtmomfbkpniblgaaGreatDoor

namespace Go.Proofs.YtmomfbkpniblgaaGreatDoor
open Go.RowKit
set_option linter.unusedVariables false

theorem leN_drop : ∀ (l : List UInt8) (q : Nat), leN l / 256 ^ q = leN (l.drop q)
  | l, 0 => by simp
  | [], q + 1 => by simp [leN]
  | c :: l, q + 1 => by
    have := c.toNat_lt
    rw [List.drop_succ_cons, ← leN_drop l q, Nat.pow_succ, Nat.mul_comm, ← Nat.div_div_eq_div_mul]
    congr 1
    simp only [leN]
    omega

theorem byte_bit (c m r : Nat) (hr : r < 8) (hc : c < 256) : (c + 256 * m) / 2 ^ r % 2 = c / 2 ^ r % 2 := by
  match r, hr with
  | 0, _ => omega
  | 1, _ => omega
  | 2, _ => omega
  | 3, _ => omega
  | 4, _ => omega
  | 5, _ => omega
  | 6, _ => omega
  | 7, _ => omega

theorem leN_bit (l : List UInt8) (t : Nat) (h : t / 8 < l.length) : leN l / 2 ^ t % 2 = (l[t / 8]).toNat / 2 ^ (t % 8) % 2 := by
  have e : 2 ^ t = 256 ^ (t / 8) * 2 ^ (t % 8) := by
    rw [show (256 : Nat) = 2 ^ 8 from rfl, ← Nat.pow_mul, ← Nat.pow_add]
    congr 1
    omega
  rw [e, ← Nat.div_div_eq_div_mul, leN_drop, List.drop_eq_getElem_cons h]
  simp only [leN]
  exact byte_bit _ _ _ (by omega) (UInt8.toNat_lt _)

theorem bit_at (kl : List UInt8) (t : Nat) (h : t / 8 < kl.length) (h2 : t / 8 < (ByteArray.mk kl.toArray).size) :
    bits .and .u8 ((((ByteArray.mk kl.toArray)[t / 8]'h2).toNat : Int) / 2 ^ (t % 8)) 1 = ((leN kl / 2 ^ t % 2 : Nat) : Int) := by
  rw [leN_bit kl t h]
  have e : ((ByteArray.mk kl.toArray)[t / 8]'h2) = kl[t / 8] := rfl
  rw [e]
  generalize kl[t / 8] = c
  have hc := c.toNat_lt
  have e2 : ((c.toNat : Int) / 2 ^ (t % 8)) = ((c.toNat / 2 ^ (t % 8) : Nat) : Int) := by simp
  rw [e2]
  have hlt : c.toNat / 2 ^ (t % 8) < 256 := Nat.lt_of_le_of_lt (Nat.div_le_self _ _) (by omega)
  generalize c.toNat / 2 ^ (t % 8) = n at *
  clear e e2
  have : ∀ n : Fin 256, bits .and .u8 ((n.val : Nat) : Int) 1 = ((n.val % 2 : Nat) : Int) := by decide +kernel
  exact this ⟨n, hlt⟩

end Go.Proofs.YtmomfbkpniblgaaGreatDoor

namespace Go.Proofs.YtmomfbkpniblgaaGreatDoor
open Go.RowKit
set_option linter.unusedVariables false

def GrownH (w : World) (v : Value) (e : Ending) (w' : World) : Prop := e = .returned v ∧ Hid (w.grownBy w' none)
theorem lift (w : World) {k : FuncId} {args : Array Value} {v : Value} (A : ∀ W : World, Calls Tryz.prog k args W (Grown v W)) (W : World) (h : Hid (w.grownBy W none)) : Calls Tryz.prog k args W (GrownH w v) :=
  (A W).mono fun e w' ⟨h1, h2⟩ => ⟨h1, Lib.hid (grow_trans h.out h2)⟩

end Go.Proofs.YtmomfbkpniblgaaGreatDoor
