/-
  Several texts of this claim in one: Grow, Bytes, Little, Wire, Zeros, NoiseOf, Row, ByRow, IndexRow, KdfPad, Word, ShaPlain, BlakePlain, WireBig, ShaMix, ShaConst.
-/
import Derived.Test.YtcmncdaojmkfgaaGreatDoorBase
import Derived.Laws.BitsAllLaws
import Derived.Laws.BytesArg
import Derived.Deep.RegionHeld3
import Derived.Deep.AppendLies
import Derived.Test.YtcmncdaojmkfgaaGreatDoorShelf
import Derived.Laws.MakeOwn
import Derived.Deep.MidRow
import Derived.Laws.IdiomStrings
import Derived.ChangeKeysEq
import Derived.StillTailTactics
import Derived.Great.Walk
namespace Go.Proofs.YtcmncdaojmkfgaaGreatDoor
open Go.RowKit
set_option linter.unusedVariables false

theorem cell_one (w : World) (u : Value) (t : TypeId) : ∀ (j : Nat) (v : Value), [u][j]? = some v → (w.alloc (.cells #[u] t)).cell? ((⟨w.heap.size, 0, none⟩ : Addr).add j) = some v := by
  intro j v hj
  match j, hj with
  | 0, hj =>
    simp at hj; subst hj
    rw [show (⟨w.heap.size, 0, none⟩ : Addr).add 0 = ⟨w.heap.size, 0, none⟩ from rfl, obj_cell (obj_new w _)]
    rfl

/-- 'out = append(out, x)', out nil or the call's own, x one value that the walk has laid in a new block. -/
theorem append_one {P : Program} {w : World} {ops : Array Oper} {rest : List Oper} {o : Oper} {a : Act} {Q : Exit → Act → World → Prop} (hgd : o.guard = none) (s x : Operand) (t : TypeId)
    (ho : o.op = .call { callee := .builtin .append, args := #[s, x], argTypes := #[t, t] })
    (base : Nat) (e : TypeId) (z : Value) (bytes : Nat) (ht : P.underlying t = some (.slice e)) (hinfo : (P.info? e).map (fun i => (i.zero, i.size, i.bytes)) = some (some z, 1, bytes))
    (hzs : z.cells.size = 1)
    (v : Value) (n : Nat) (xs : List Value) (hs : a.eval s = v) (hown : w.ownsRow base e 1 v n xs) (u : Value) (hu : u.oneCell' = true)
    (hx : a.eval x = .slice (some ⟨w.heap.size, 0, none⟩) 1 1) (hb : 0 < bytes) (hroom : (n + 1) * bytes ≤ 140737488355328) (hbase : base ≤ w.heap.size)
    (h : ∀ v' w', w'.ownsRow base e 1 v' (n + 1) (xs ++ [u]) → w.grownBy w' v.ownBlock → wpList P ops Q rest (a.put o.dst v') w') : wpList P ops Q (o :: rest) a (w.alloc (.cells #[u] e)) := by
  obtain ⟨i0, hi, hz0, hz1, hz2⟩ := info_parts hinfo
  have h63 : n + 1 ≤ maxLen := by
    have := Nat.le_mul_of_pos_right (n + 1) hb
    unfold maxLen; omega
  exact wpList_append_own _ hgd s x t ho base e i0 z 1 bytes ht hi hz0 hz1 hz2 hzs (by omega) v n xs hs (hown.alloc _) ⟨w.heap.size, 0, none⟩ 1 1 [u] hx rfl (cell_one w u e) (by simpa using hu) h63 hroom (by simp; omega)
    fun v' w' h1 h2 _ => h v' w' h1 (grow_trans (World.grownBy_alloc _ _ _) h2)

theorem cell_two (w : World) (u1 u2 : Value) (t : TypeId) : ∀ (j : Nat) (v : Value), [u1, u2][j]? = some v → (w.alloc (.cells #[u1, u2] t)).cell? ((⟨w.heap.size, 0, none⟩ : Addr).add j) = some v := by
  intro j v hj
  have e : (⟨w.heap.size, 0, none⟩ : Addr).add j = ⟨w.heap.size, j, none⟩ := by unfold Addr.add; split <;> simp_all
  rw [e, obj_cell (obj_new w _)]
  match j, hj with
  | 0, hj => exact hj
  | 1, hj => exact hj

/-- .. of two. -/
theorem append_two {P : Program} {w : World} {ops : Array Oper} {rest : List Oper} {o : Oper} {a : Act} {Q : Exit → Act → World → Prop} (hgd : o.guard = none) (s x : Operand) (t : TypeId)
    (ho : o.op = .call { callee := .builtin .append, args := #[s, x], argTypes := #[t, t] })
    (base : Nat) (e : TypeId) (z : Value) (bytes : Nat) (ht : P.underlying t = some (.slice e)) (hinfo : (P.info? e).map (fun i => (i.zero, i.size, i.bytes)) = some (some z, 1, bytes))
    (hzs : z.cells.size = 1)
    (v : Value) (n : Nat) (xs : List Value) (hs : a.eval s = v) (hown : w.ownsRow base e 1 v n xs) (u1 u2 : Value) (hu1 : u1.oneCell' = true) (hu2 : u2.oneCell' = true)
    (hx : a.eval x = .slice (some ⟨w.heap.size, 0, none⟩) 2 2) (hb : 0 < bytes) (hroom : (n + 2) * bytes ≤ 140737488355328) (hbase : base ≤ w.heap.size)
    (h : ∀ v' w', w'.ownsRow base e 1 v' (n + 2) (xs ++ [u1, u2]) → w.grownBy w' v.ownBlock → wpList P ops Q rest (a.put o.dst v') w') : wpList P ops Q (o :: rest) a (w.alloc (.cells #[u1, u2] e)) := by
  obtain ⟨i0, hi, hz0, hz1, hz2⟩ := info_parts hinfo
  have h63 : n + 2 ≤ maxLen := by
    have := Nat.le_mul_of_pos_right (n + 2) hb
    unfold maxLen; omega
  exact wpList_append_own _ hgd s x t ho base e i0 z 1 bytes ht hi hz0 hz1 hz2 hzs (by omega) v n xs hs (hown.alloc _) ⟨w.heap.size, 0, none⟩ 2 2 [u1, u2] hx rfl (cell_two w u1 u2 e) (by simp [hu1, hu2]) h63 hroom (by simp; omega)
    fun v' w' h1 h2 _ => h v' w' h1 (grow_trans (World.grownBy_alloc _ _ _) h2)

/-- The call's own slice is written: below its base all is as it was. -/
theorem own_below {w a b : World} {base : Nat} {e : TypeId} {size n : Nat} {v : Value} {xs : List Value} (HB : Below base w a) (hown : a.ownsRow base e size v n xs) (hb : base ≤ a.heap.size) (hg : a.grownBy b v.ownBlock) : Below base w b :=
  HB.trans (grow_below hg base hb fun k hk => (hown.lt k hk).1)

end Go.Proofs.YtcmncdaojmkfgaaGreatDoor

namespace Go.Proofs.YtcmncdaojmkfgaaGreatDoor
open Go.RowKit
set_option linter.unusedVariables false

/-- A byte in a cell. -/
def bcell (c : UInt8) : Value := .int .u8 (c.toNat : Int)

/-- The string of these bytes. -/
def S (l : List UInt8) : Value := .string ⟨l.toArray⟩

/-- A slice of bytes of the call's own, from block base on: these bytes. -/
def brow (w : World) (base : Nat) (v : Value) (l : List UInt8) : Prop := w.ownsRow base 5 1 v l.length (l.map bcell)

theorem brow_nil (w : World) (base : Nat) : brow w base (.slice none 0 0) [] := World.ownsRow_nil _ _ _ _

theorem brow.kept {w w' : World} {base : Nat} {v : Value} {l : List UInt8} {r : Option Nat} (h : brow w base v l) (g : w.grownBy w' r) (hr : v.ownBlock = none ∨ v.ownBlock ≠ r) : brow w' base v l := World.ownsRow.kept h g hr

theorem brow.keptb {w w' : World} {base : Nat} {v : Value} {l : List UInt8} (h : brow w base v l) (g : w.grownBy w' none) : brow w' base v l := World.ownsRow.kept h g (by cases v.ownBlock <;> simp)

theorem info_u8 : (Tryz.prog.info? 5).map (fun i => (i.zero, i.size, i.bytes)) = some (some (.int .u8 0), 1, 1) := by kernel_rfl

theorem oneCell_bcell (c : UInt8) : (bcell c).oneCell' = true := rfl

theorem u8_lt (c : UInt8) : c.toNat < 256 := c.toNat_lt

theorem bcell_of (n : Nat) : Value.int .u8 ((n % 256 : Nat) : Int) = bcell (UInt8.ofNat n) := by
  unfold bcell
  rw [UInt8.toNat_ofNat']

/-- 'b = append(b, c)' with one byte. -/
theorem append_byte {w : World} {ops : Array Oper} {rest : List Oper} {o : Oper} {a : Act} {Q : Exit → Act → World → Prop} (hgd : o.guard = none) (s x : Operand)
    (ho : o.op = .call { callee := .builtin .append, args := #[s, x], argTypes := #[90, 90] })
    (base : Nat) (v : Value) (l : List UInt8) (hs : a.eval s = v) (hown : brow w base v l) (c : UInt8) (u : Value) (hu : u = bcell c)
    (hx : a.eval x = .slice (some ⟨w.heap.size, 0, none⟩) 1 1) (hroom : l.length + 1 ≤ 140737488355328) (hbase : base ≤ w.heap.size)
    (h : ∀ v' w', brow w' base v' (l ++ [c]) → w.grownBy w' v.ownBlock → wpList Tryz.prog ops Q rest (a.put o.dst v') w') : wpList Tryz.prog ops Q (o :: rest) a (w.alloc (.cells #[u] 5)) := by
  subst hu
  refine append_one hgd s x 90 ho base 5 (.int .u8 0) 1 Tryz.underlying90 info_u8 rfl v l.length (l.map bcell) hs hown (bcell c) rfl hx (by omega) (by omega) hbase ?_
  intro v' w' h1 h2
  refine h v' w' ?_ h2
  unfold brow
  rw [List.length_append, List.map_append]
  exact h1

theorem obj_new_drew (w : World) (o : Obj) : (w.alloc o).drew.heap[w.heap.size]? = some o := obj_new w o

theorem brow.alloc {w : World} {base : Nat} {v : Value} {l : List UInt8} (h : brow w base v l) (o : Obj) : brow (w.alloc o) base v l := World.ownsRow.alloc h o

/-- An append of bytes at a step of a region that draws its order. -/
theorem step_bytes {w : World} {ops : Array Oper} {o : Oper} {a : Act} {K : Act → World → Prop} {Q : Exit → Act → World → Prop} {E : Prop} (hgd : o.guard = none) (s x : Operand)
    (ho : o.op = .call { callee := .builtin .append, args := #[s, x], argTypes := #[90, 90] })
    (base : Nat) (v : Value) (l : List UInt8) (hs : a.eval s = v) (hown : brow w base v l) (B : Nat) (us : Array Value) (m c : Nat) (hx : a.eval x = .slice (some ⟨B, 0, none⟩) m c) (cs : List UInt8)
    (hblk : w.heap[B]? = some (.cells us 5 (0, 0))) (hus : us = (cs.map bcell).toArray) (hm : m = cs.length) (hm0 : 0 < cs.length) (hroom : l.length + cs.length ≤ 140737488355328) (hbase : base ≤ w.heap.size)
    (h : ∀ v' w', brow w' base v' (l ++ cs) → w.grownBy w' v.ownBlock → (∃ g cap, v' = .slice (some ⟨g, 0, none⟩) (l.length + cs.length) cap ∧ (v.ownBlock = some g ∨ g = w.heap.size)) → K (a.put o.dst v') w') :
    if Region.wanted o (yielded ops a.tmps) = true then Oper.wp Tryz.prog o a w K Q else E := by
  subst hus hm
  obtain ⟨i0, hi, hz0, hz1, hz2⟩ := info_parts info_u8
  refine step_append_lies w hgd s x 90 ho base 5 i0 (.int .u8 0) 1 1 Tryz.underlying90 hi hz0 hz1 hz2 rfl (by omega) v l.length (l.map bcell) hs hown ⟨B, 0, none⟩ cs.length c (cs.map bcell) hx (by simp) ?_ ?_ hm0 (by unfold maxLen; omega) (by omega) hbase w.heap.size rfl ?_
  · intro j u hu
    exact World.news_of_block hblk j u hu
  · intro u hu
    obtain ⟨b, _, rfl⟩ := List.mem_map.1 hu
    rfl
  · intro g cap w' h1 h2 h3 _
    refine h _ w' ?_ h2 ⟨g, cap, rfl, h3⟩
    unfold brow
    rw [List.length_append, List.map_append]
    exact h1

theorem append_byte2 {w : World} {ops : Array Oper} {rest : List Oper} {o : Oper} {a : Act} {Q : Exit → Act → World → Prop} (hgd : o.guard = none) (s x : Operand)
    (ho : o.op = .call { callee := .builtin .append, args := #[s, x], argTypes := #[90, 90] })
    (base : Nat) (v : Value) (l : List UInt8) (hs : a.eval s = v) (hown : brow w base v l) (c1 c2 : UInt8) (u1 u2 : Value) (hu1 : u1 = bcell c1) (hu2 : u2 = bcell c2)
    (hx : a.eval x = .slice (some ⟨w.heap.size, 0, none⟩) 2 2) (hroom : l.length + 2 ≤ 140737488355328) (hbase : base ≤ w.heap.size)
    (h : ∀ v' w', brow w' base v' (l ++ [c1, c2]) → w.grownBy w' v.ownBlock → wpList Tryz.prog ops Q rest (a.put o.dst v') w') : wpList Tryz.prog ops Q (o :: rest) a (w.alloc (.cells #[u1, u2] 5)) := by
  subst hu1 hu2
  refine append_two hgd s x 90 ho base 5 (.int .u8 0) 1 Tryz.underlying90 info_u8 rfl v l.length (l.map bcell) hs hown (bcell c1) (bcell c2) rfl rfl hx (by omega) (by omega) hbase ?_
  intro v' w' h1 h2
  refine h v' w' ?_ h2
  unfold brow
  rw [List.length_append, List.map_append]
  exact h1

theorem strOfNums_list (l : List UInt8) : strOfNums (l.map fun c => (c.toNat : Int)) = ⟨l.toArray⟩ := by
  unfold strOfNums
  rw [List.map_map]
  congr 1
  congr 1
  have : ((fun n : Int => UInt8.ofNat n.toNat) ∘ fun c : UInt8 => (c.toNat : Int)) = id := by
    funext c
    simp
  rw [this, List.map_id]

/-- 'string(b)' -/
theorem conv_brow {w : World} {base : Nat} {v : Value} {l : List UInt8} (h : brow w base v l) : (convert 90 9 v).run Tryz.prog w = .ok (S l) w := by
  unfold brow at h
  rcases h.2 with ⟨rfl, h0⟩ | ⟨g, cap, cur, rfl, hb, hg, hn, hc, hs, ht⟩
  · obtain rfl := List.eq_nil_of_length_eq_zero h0
    exact run_convert_bytes_nil w 90 5 Tryz.underlying90 Tryz.underlying5 0 0 9 Tryz.underlying9
  · have hcell : ∀ i, i < l.length → w.cell? ⟨g, 0 + i, none⟩ = some (.int .u8 ((l.map fun c => (c.toNat : Int)).getD i 0)) := by
      intro i hi
      have e1 : (l.map bcell)[i]? = some (bcell l[i]) := by simp [List.getElem?_eq_getElem hi]
      have e2 := h.cells (g := g) rfl i _ e1
      have e3 : (⟨g, 0, none⟩ : Addr).add i = ⟨g, 0 + i, none⟩ := by unfold Addr.add; split <;> simp_all
      rw [e3] at e2
      rw [e2]
      simp [bcell, List.getD, List.getElem?_eq_getElem hi]
    have := run_convert_bytes_arg w 90 5 Tryz.underlying90 Tryz.underlying5 g 0 l.length cap (l.map fun c => (c.toNat : Int)) (by simp) hcell 9 Tryz.underlying9
    rw [strOfNums_list] at this
    exact this

theorem brow.drewN {w : World} {base : Nat} {v : Value} {l : List UInt8} (h : brow w base v l) (n : Nat) : brow (w.drewN n) base v l := h
theorem brow.drew {w : World} {base : Nat} {v : Value} {l : List UInt8} (h : brow w base v l) : brow w.drew base v l := h

end Go.Proofs.YtcmncdaojmkfgaaGreatDoor

namespace Go.Proofs.YtcmncdaojmkfgaaGreatDoor
open Go.RowKit
set_option linter.unusedVariables false

/-- The number of bytes, the lowest first. -/
def leN : List UInt8 → Nat
  | [] => 0
  | c :: l => c.toNat + 256 * leN l

theorem leN_snoc (l : List UInt8) (c : UInt8) : leN (l ++ [c]) = leN l + c.toNat * 256 ^ l.length := by
  induction l with
  | nil => simp [leN]
  | cons d l ih =>
    simp only [List.cons_append, leN, ih, List.length_cons, Nat.pow_succ]
    rw [Nat.mul_add, ← Nat.add_assoc, Nat.mul_left_comm, Nat.mul_comm 256 (256 ^ l.length)]

theorem leN_lt (l : List UInt8) : leN l < 256 ^ l.length := by
  induction l with
  | nil => simp [leN]
  | cons d l ih =>
    have := u8_lt d
    simp only [leN, List.length_cons, Nat.pow_succ]
    omega

theorem leN_lt8 (l : List UInt8) (h : l.length ≤ 8) : leN l < 18446744073709551616 :=
  Nat.lt_of_lt_of_le (leN_lt l) (Nat.pow_le_pow_right (by omega) h : 256 ^ l.length ≤ 256 ^ 8)

/-- Bytes of a number, the lowest first. -/
def leB (n : Nat) : Nat → List UInt8
  | 0 => []
  | k + 1 => UInt8.ofNat n :: leB (n / 256) k

theorem leB_length (n k : Nat) : (leB n k).length = k := by
  induction k generalizing n with
  | zero => rfl
  | succ k ih => simp [leB, ih]

theorem leB_snoc (n k : Nat) : leB n (k + 1) = leB n k ++ [UInt8.ofNat (n / 256 ^ k)] := by
  induction k generalizing n with
  | zero => simp [leB]
  | succ k ih =>
    rw [leB, ih (n / 256)]
    simp only [leB, List.cons_append, Nat.pow_succ, Nat.div_div_eq_div_mul, Nat.mul_comm]

theorem leN_leB (n k : Nat) : leN (leB n k) = n % 256 ^ k := by
  induction k generalizing n with
  | zero => simp [leB, leN, Nat.mod_one]
  | succ k ih =>
    simp only [leB, leN, ih, UInt8.toNat_ofNat']
    rw [show 256 ^ (k + 1) = 256 * 256 ^ k from by rw [Nat.pow_succ, Nat.mul_comm], Nat.mod_mul]

theorem leB_leN (l : List UInt8) : leB (leN l) l.length = l := by
  induction l with
  | nil => rfl
  | cons c l ih =>
    have hc := u8_lt c
    simp only [leN, List.length_cons, leB]
    rw [show (c.toNat + 256 * leN l) / 256 = leN l from by omega, ih]
    congr 1
    apply UInt8.toNat_inj.1
    rw [UInt8.toNat_ofNat']
    omega

theorem pow256 (j : Nat) : 2 ^ (8 * j) = 256 ^ j := by rw [Nat.pow_mul]

theorem or_shl (N c j : Nat) (hN : N < 256 ^ j) (hc : c < 256) (hj : j < 8) : bits .or .u64 (N : Int) ((c * 256 ^ j : Nat) : Int) = ((N + c * 256 ^ j : Nat) : Int) := by
  have h1 : 256 ^ (j + 1) ≤ 256 ^ 8 := Nat.pow_le_pow_right (by omega) (by omega)
  have h2 : c * 256 ^ j + 256 ^ j ≤ 256 ^ (j + 1) := by
    rw [Nat.pow_succ, ← Nat.succ_mul, Nat.mul_comm]
    exact Nat.mul_le_mul_left _ hc
  have h3 : (256 : Nat) ^ 8 = 18446744073709551616 := by decide
  rw [u64_or_nat _ _ (by omega) (by omega)]
  congr 1
  rw [← pow256, Nat.mul_comm c, Nat.or_comm, ← Nat.two_pow_add_eq_or_of_lt (by rw [pow256]; exact hN), Nat.add_comm]

set_option maxHeartbeats 400000 in
theorem wire_little (w : World) (l : List UInt8) (hl : l.length ≤ 140737488355328) :
    Calls Tryz.prog 27 #[S l] w fun e w' => e = .returned (.int .u64 (leN (l.take 8))) ∧ w = w' := by
  obtain ⟨m, hm, m8, ml, hmin⟩ : ∃ m : Nat, m = min l.length 8 ∧ m ≤ 8 ∧ m ≤ l.length ∧ (if (8 : Int) < (l.length : Int) then (8 : Int) else (l.length : Int)) = (m : Int) := ⟨_, rfl, by omega, by omega, by split <;> omega⟩
  have htk : l.take 8 = l.take m := by
    rw [hm]
    rcases Nat.lt_or_ge l.length 8 with h | h
    · rw [List.take_of_length_le (by omega), List.take_of_length_le (by omega)]
    · rw [Nat.min_eq_right h]
  rw [htk]
  have HM := Lib.hid hm
  clear hm htk
  unfold S
  go_enter Tryz.func27, Tryz.ntmps27
  go_wp2_with fail
  go_loop [3, 8] (fun vn vi => ∃ j : Nat, j ≤ m ∧ vi = .int .i64 j ∧ vn = .int .u64 (leN (l.take j))) (fun _ vi => m - (intOf vi).toNat)
  case atStart => exact ⟨0, by omega, rfl, rfl⟩
  case round =>
    obtain ⟨j, hj, rfl, rfl⟩ := hrel
    by_cases hlt : j < m
    · have hb : leN (l.take j) < 256 ^ j := by have := leN_lt (l.take j); rwa [List.length_take, Nat.min_eq_left (by omega)] at this
      have hlj : j < l.length := by omega
      have hc := u8_lt l[j]
      have hor := or_shl (leN (l.take j)) l[j].toNat j hb hc (by omega)
      have e1 : 8 * (j : Int) ≤ 63 := by omega
      have e : bits .or .u64 (leN (l.take j) : Int) (IntKind.u64.wrap (IntKind.u64.wrap ((ByteArray.mk l.toArray)[j]'(by simpa [ByteArray.size] using hlj)).toNat * 2 ^ (8 * j))) = ((leN (l.take (j + 1)) : Nat) : Int) := by
        have h1 : ((l[j].toNat : Int)) * 2 ^ (8 * j) = ((l[j].toNat * 256 ^ j : Nat) : Int) := by rw [← pow256]; simp
        have h2 : (256 : Nat) ^ (j + 1) ≤ 256 ^ 8 := Nat.pow_le_pow_right (by omega) (by omega)
        have h3 : (256 : Nat) ^ 8 = 18446744073709551616 := by decide
        have h4 : l[j].toNat * 256 ^ j < 256 ^ (j + 1) := by
          rw [Nat.pow_succ, Nat.mul_comm]
          exact Nat.mul_lt_mul_of_pos_left hc (Nat.pow_pos (by omega))
        have h5 : IntKind.u64.wrap (l[j].toNat : Int) = (l[j].toNat : Int) := IntWalk.u64_in _ (by omega)
        show bits .or .u64 (leN (l.take j) : Int) (IntKind.u64.wrap (IntKind.u64.wrap (l[j].toNat : Int) * 2 ^ (8 * j))) = _
        rw [h5, h1, IntWalk.u64_in _ (by omega), hor, List.take_succ_eq_append_getElem hlj, leN_snoc, List.length_take, Nat.min_eq_left (by omega)]
      have E := Lib.hid e
      clear e hor
      go_wp2_with fail
      go_round
      case rel => exact ⟨j + 1, by omega, by go_num, by rw [← E.out]⟩
      case measure => simp [intOf]; omega
    · obtain rfl : j = m := by omega
      go_wp2_with fail
      go_ret
      exact ⟨rfl, rfl⟩

def OwnBytesN (w : World) (base : Nat) (l : List UInt8) (e : Ending) (w' : World) : Prop := ∃ v', e = .returned v' ∧ brow w' base v' l ∧ Below base w w'

set_option maxHeartbeats 400000 in
theorem wire_appendLittle (w : World) (base : Nat) (v : Value) (l : List UInt8) (n k : Nat) (hown : brow w base v l) (hn : n < 18446744073709551616) (hk : k ≤ 8) (hl : l.length + 8 ≤ 140737488355328) (hb : base ≤ w.heap.size) :
    Calls Tryz.prog 60 #[v, .int .u64 n, .int .i64 k] w (OwnBytesN w base (l ++ leB n k)) := by
  have hP : ∀ j, j ≤ k → (leB n j).length = j := fun j _ => leB_length n j
  go_enter Tryz.func60, Tryz.ntmps60
  go_wp2_with fail
  go_loopw [0, 9] (fun vb vi wr => ∃ j : Nat, j ≤ k ∧ vi = .int .i64 j ∧ brow wr base vb (l ++ leB n j) ∧ Below base w wr) (fun _ vi _ => k - (intOf vi).toNat)
  case atStart => exact ⟨0, by omega, rfl, by simpa [leB] using hown, Below.refl _ _⟩
  case round =>
    obtain ⟨j, hj, rfl, hown, HB⟩ := hrel
    have hbz := HB.size
    clear hP
    by_cases hlt : j < k
    · have hlen : (l ++ leB n j).length + 1 ≤ 140737488355328 := by rw [List.length_append, leB_length]; omega
      have HS := Lib.hid (leB_snoc n j)
      have e1 : 0 ≤ 8 * (j : Int) := by omega
      have e2 : 8 * (j : Int) ≤ 64 := by omega
      go_wp2_with (at_builtin; go_must (refine append_byte rfl _ _ rfl base _ _ rfl hown (UInt8.ofNat (n / 256 ^ j)) _ ?c1 rfl hlen (by omega) ?_))
      case c1 => rw [← bcell_of, ← pow256]; simp
      intro v' w' hown' hg'
      replace HB := own_below HB hown (by omega) hg'
      rw [← HS.out] at hown'
      clear hown hg' hbz
      go_wp2_with fail
      go_roundw
      case rel => exact ⟨j + 1, by omega, by go_num, hown', HB⟩
      case measure => simp [intOf]; omega
    · obtain rfl : j = k := by omega
      go_wp2_with fail
      go_ret
      exact ⟨_, rfl, hown, HB⟩

end Go.Proofs.YtcmncdaojmkfgaaGreatDoor

namespace Go.Proofs.YtcmncdaojmkfgaaGreatDoor
open Go.RowKit
set_option linter.unusedVariables false

/-- So many bytes of a number, the highest one first. -/
def bigB (n many : Nat) : List UInt8 := (List.range many).map fun i => UInt8.ofNat (n / 2 ^ (8 * (many - 1 - i)))

def OwnBytes (w : World) (base : Nat) (l : List UInt8) (e : Ending) (w' : World) : Prop := ∃ v', e = .returned v' ∧ brow w' base v' l ∧ Below base w w'

theorem bigB_length (n many : Nat) : (bigB n many).length = many := by simp [bigB]

theorem bigB_snoc (n many j : Nat) (h : j < many) : (bigB n many).take (j + 1) = (bigB n many).take j ++ [UInt8.ofNat (n / 2 ^ (8 * (many - 1 - j)))] := by
  rw [List.take_succ_eq_append_getElem (by rw [bigB_length]; exact h)]
  simp [bigB]

set_option maxHeartbeats 400000 in
theorem wire_appendBig (w : World) (base : Nat) (v : Value) (l : List UInt8) (n : Nat) (many : Int) (hown : brow w base v l) (hn : n < 18446744073709551616) (hm : 0 ≤ many) (hm8 : many ≤ 8) (hl : l.length + 8 ≤ 140737488355328) (hb : base ≤ w.heap.size) :
    Calls Tryz.prog 58 #[v, .int .u64 n, .int .i64 many] w (OwnBytes w base (l ++ bigB n many.toNat)) := by
  obtain ⟨k, rfl⟩ := Int.eq_ofNat_of_zero_le hm
  rw [Int.toNat_natCast]
  go_enter Tryz.func58, Tryz.ntmps58
  go_wp2
  go_loopw [0, 9] (fun vb vi wr => ∃ j : Nat, j ≤ k ∧ vi = .int .i64 j ∧ brow wr base vb (l ++ (bigB n k).take j) ∧ Below base w wr) (fun _ vi _ => k - (intOf vi).toNat)
  case atStart => exact ⟨0, by omega, rfl, by simpa using hown, Below.refl _ _⟩
  case round =>
    obtain ⟨j, hj, rfl, hown, HB⟩ := hrel
    have hlen := bigB_length n k
    have hbz := HB.size
    by_cases hlt : j < k
    · have hsn := bigB_snoc n k j hlt
      have HS := Lib.hid hsn
      clear hsn
      have e1 : 0 ≤ 8 * ((k : Int) - 1 - j) := by omega
      have e2 : 8 * ((k : Int) - 1 - j) ≤ 64 := by omega
      go_wp2_with (at_builtin; go_must (refine append_byte rfl _ _ rfl base _ _ rfl hown (UInt8.ofNat (n / 2 ^ (8 * (k - 1 - j)))) _ ?c1 rfl (by simp; omega) (by omega) ?_))
      case c1 => rw [← bcell_of]; simp
      intro v' w' hown' hg'
      replace HB := own_below HB hown (by omega) hg'
      rw [← HS.out] at hown'
      clear hown hg' hbz
      go_wp2
      go_roundw
      case rel => exact ⟨j + 1, by omega, by go_num, hown', HB⟩
      case measure => simp [intOf]; omega
    · obtain rfl : j = k := by omega
      go_wp2
      go_ret
      exact ⟨_, rfl, by rw [List.take_of_length_le (by omega)] at hown; exact hown, HB⟩

/-- The number of bytes, the highest one first. -/
def bigN (l : List UInt8) : Nat := l.foldl (fun n c => n * 256 + c.toNat) 0

theorem bigN_snoc (l : List UInt8) (c : UInt8) : bigN (l ++ [c]) = bigN l * 256 + c.toNat := by simp [bigN, List.foldl_append]

theorem foldB_lt (l : List UInt8) : ∀ a : Nat, l.foldl (fun n c => n * 256 + c.toNat) a + 1 ≤ (a + 1) * 256 ^ l.length := by
  induction l with
  | nil => intro a; simp
  | cons c l ih =>
    intro a
    have h := ih (a * 256 + c.toNat)
    have hc := u8_lt c
    rw [List.foldl_cons, List.length_cons, Nat.pow_succ]
    refine Nat.le_trans h ?_
    rw [Nat.mul_comm (256 ^ l.length) 256, ← Nat.mul_assoc]
    exact Nat.mul_le_mul_right _ (by omega)

theorem bigN_lt (l : List UInt8) : bigN l < 256 ^ l.length := by
  have := foldB_lt l 0
  simp only [bigN]; omega

theorem bigN_lt8 (l : List UInt8) (h : l.length ≤ 8) : bigN l < 18446744073709551616 :=
  Nat.lt_of_lt_of_le (bigN_lt l) (Nat.pow_le_pow_right (by omega) h : 256 ^ l.length ≤ 256 ^ 8)

theorem bigN_take_lt (l : List UInt8) (j : Nat) (hj : j < l.length) (h : l.length ≤ 8) : bigN (l.take j) < 72057594037927936 := by
  refine Nat.lt_of_lt_of_le (bigN_lt _) (Nat.pow_le_pow_right (by omega) ?_ : 256 ^ (l.take j).length ≤ 256 ^ 7)
  rw [List.length_take]; omega

theorem or_byte (N : Nat) (c : UInt8) (h : N < 72057594037927936) : bits .or .u64 ((N : Int) * 256) (IntKind.u64.wrap (c.toNat : Int)) = ((N * 256 + c.toNat : Nat) : Int) := by
  have hc := u8_lt c
  have e1 : IntKind.u64.wrap (c.toNat : Int) = ((c.toNat : Nat) : Int) := IntWalk.u64_in _ (by omega)
  rw [e1, show ((N : Int) * 256) = ((N * 256 : Nat) : Int) from by simp, u64_or_nat _ _ (by omega) (by omega), nat_join 8 _ _ (by omega) (by omega)]

theorem extract_list (l : List UInt8) (a b : Nat) : ((ByteArray.mk l.toArray).extract a b).data.toList = (l.drop a).take (b - a) := by
  rw [ByteArray.extract_mk]

end Go.Proofs.YtcmncdaojmkfgaaGreatDoor

namespace Go.Proofs.YtcmncdaojmkfgaaGreatDoor
open Go.RowKit
set_option linter.unusedVariables false

def zerosL (n : Nat) : List UInt8 := List.replicate n 0
def sizedL (l : List UInt8) (n : Nat) : List UInt8 := l.take n ++ zerosL (n - l.length)

theorem sizedL_length (l : List UInt8) (n : Nat) : (sizedL l n).length = n := by
  unfold sizedL zerosL
  rw [List.length_append, List.length_take, List.length_replicate]
  omega

theorem zerosL_length (n : Nat) : (zerosL n).length = n := by simp [zerosL]

theorem repeatL_zero (n : Nat) : Lib.repeatL [0] n = zerosL n := by
  induction n with
  | zero => rfl
  | succ n ih =>
    show [0] ++ Lib.repeatL [0] n = _
    rw [ih]
    rfl

/-- How the walk's strings read: joined, and cut. -/
theorem rule_app (a b : List UInt8) : ByteArray.mk a.toArray ++ ByteArray.mk b.toArray = ⟨(a ++ b).toArray⟩ := by
  rw [ByteArray.mk_append_mk]

theorem rule_ext (l : List UInt8) (a b : Nat) : (ByteArray.mk l.toArray).extract a b = ⟨((l.drop a).take (b - a)).toArray⟩ := by
  apply ByteArray.ext
  rw [ByteArray.data_extract]
  apply Array.toList_inj.1
  simp

theorem list_of (s : ByteArray) : ∃ l : List UInt8, s = ⟨l.toArray⟩ ∧ l.length = s.size := ⟨s.data.toList, rfl, by rw [Array.length_toList]; rfl⟩

def Grown (v : Value) (w : World) (e : Ending) (w' : World) : Prop := e = .returned v ∧ w.grownBy w' none

theorem repeat_zero (w : World) (n : Nat) (hn : n ≤ 140737488355328) : Calls Tryz.prog 36 #[.string ⟨#[0]⟩, .int .i64 n] w (Grown (S (zerosL n)) w) := by
  refine (Tryz.strings_Repeat ⟨#[0]⟩ n w (by omega) (by simpa [ByteArray.size] using hn)).mono ?_
  rintro e w' ⟨rfl, hb⟩
  refine ⟨?_, grow_of_below hb⟩
  rw [show (ByteArray.mk #[0]).data.toList = [0] from rfl, repeatL_zero]
  rfl

end Go.Proofs.YtcmncdaojmkfgaaGreatDoor

namespace Go.Proofs.YtcmncdaojmkfgaaGreatDoor
open Go.RowKit
set_option linter.unusedVariables false

/-- A suite's value; its nonce. -/
def suV (suite : Nat) : Value := if suite = 1 then .iface 125 (.agg #[]) else .iface 126 (.agg #[])
def nonL (suite n : Nat) : List UInt8 := [0, 0, 0, 0] ++ (if suite = 1 then leB n 8 else bigB n 8)
theorem nonL_length (suite n : Nat) : (nonL suite n).length = 12 := by
  unfold nonL
  split <;> simp [leB_length, bigB_length]

theorem code_of1 (w : World) : Calls Tryz.prog 49 #[.int .i64 1] w fun e w' => e = .returned (suV 1) ∧ w = w' := by
  go_enter Tryz.func49, Tryz.ntmps49
  go_wp2_with fail
  go_ret
  exact ⟨rfl, rfl⟩
theorem code_of2 (w : World) : Calls Tryz.prog 49 #[.int .i64 2] w fun e w' => e = .returned (suV 2) ∧ w = w' := by
  go_enter Tryz.func49, Tryz.ntmps49
  go_wp2_with fail
  go_ret
  exact ⟨rfl, rfl⟩

theorem brow_zero4 (w : World) : brow (w.alloc (.cells #[.int .u8 0, .int .u8 0, .int .u8 0, .int .u8 0] 5)) w.heap.size (.slice (some ⟨w.heap.size, 0, none⟩) 4 4) [0, 0, 0, 0] :=
  ⟨rfl, Or.inr ⟨w.heap.size, 4, _, rfl, Nat.le_refl _, obj_new w _, Nat.le_refl _, by unfold maxLen; omega, rfl, rfl⟩⟩

theorem grow_below_trans {a b c : World} {B : Nat} (h : a.grownBy b none) (k : Below B b c) (hB : a.heap.size ≤ B) : a.grownBy c none :=
  ⟨k.os.trans h.os, k.tape.trans h.tape, k.output.trans h.output, Nat.le_trans h.size k.size, fun i hi hr => (k.block i (Nat.lt_of_lt_of_le hi hB)).trans (h.block i hi hr)⟩

theorem mk4 (W : World) : (Instr.makeSlice 90 (.int .i64 4) (.int .i64 4)).run Tryz.prog W = .ok (.slice (some ⟨W.heap.size, 0, none⟩) 4 4) (W.alloc (.cells #[.int .u8 0, .int .u8 0, .int .u8 0, .int .u8 0] 5)) := by
  obtain ⟨i0, hi, hz0, hz1, hz2⟩ := info_parts info_u8
  have h := run_makeSlice (P := Tryz.prog) W 90 5 i0 (.int .u8 0) Tryz.underlying90 hi hz0 .i64 .i64 4 4 (by omega) (by omega) (by rw [hz1]; decide) (by rw [hz2]; decide) (by omega)
  rw [h, hz1]
  have er : Array.range 4 = #[0, 1, 2, 3] := by decide
  simp [madeCells, Value.cells, er]

set_option maxRecDepth 100000 in
theorem code_bnonce (w : World) (n : Nat) (hn : n < 18446744073709551616) : Calls Tryz.prog 139 #[.agg #[], .int .u64 (n : Int)] w (Grown (S (nonL 1 n)) w) := by
  have A1 : ∀ (W : World) (b : Nat) (v : Value), brow W b v [0, 0, 0, 0] → b ≤ W.heap.size → Calls Tryz.prog 60 #[v, .int .u64 (n : Int), .int .i64 8] W (OwnBytes W b (nonL 1 n)) := fun W b v h1 h2 => wire_appendLittle W b v [0, 0, 0, 0] n 8 h1 hn (by omega) (by simp) h2
  have M := mk4 (w.alloc (.cells #[] 125))
  have B4 := brow_zero4 (w.alloc (.cells #[] 125))
  have A2 := A1 _ _ _ B4 (by simp)
  have HG : Hid (w.grownBy ((w.alloc (.cells #[] 125)).alloc (.cells #[.int .u8 0, .int .u8 0, .int .u8 0, .int .u8 0] 5)) none) := Lib.hid (grow_alloc (World.grownBy_alloc _ _ _) _)
  have e1 : (w.alloc (.cells #[] 125)).heap.size = w.heap.size + 1 := by simp
  rw [e1] at A2
  generalize nonL 1 n = V at *
  clear A1 B4 e1
  unfold S
  go_enter Tryz.func139, Tryz.ntmps139
  go_wp2_with fail
  (with_reducible refine A2.mono ?_)
  rintro e x ⟨v, rfl, hb, hbl⟩
  have hcv := conv_brow hb
  unfold S at hcv
  have HG2 := Lib.hid (grow_below_trans HG.out hbl (by omega))
  clear hb hbl A2 HG M
  go_wp2_with fail
  go_ret
  exact ⟨rfl, HG2.out⟩

set_option maxRecDepth 100000 in
theorem code_snonce (w : World) (n : Nat) (hn : n < 18446744073709551616) : Calls Tryz.prog 162 #[.agg #[], .int .u64 (n : Int)] w (Grown (S (nonL 2 n)) w) := by
  have A1 : ∀ (W : World) (b : Nat) (v : Value), brow W b v [0, 0, 0, 0] → b ≤ W.heap.size → Calls Tryz.prog 58 #[v, .int .u64 (n : Int), .int .i64 8] W (OwnBytes W b (nonL 2 n)) := fun W b v h1 h2 => wire_appendBig W b v [0, 0, 0, 0] n 8 h1 hn (by omega) (by omega) (by simp) h2
  have M := mk4 (w.alloc (.cells #[] 126))
  have B4 := brow_zero4 (w.alloc (.cells #[] 126))
  have A2 := A1 _ _ _ B4 (by simp)
  have HG : Hid (w.grownBy ((w.alloc (.cells #[] 126)).alloc (.cells #[.int .u8 0, .int .u8 0, .int .u8 0, .int .u8 0] 5)) none) := Lib.hid (grow_alloc (World.grownBy_alloc _ _ _) _)
  have e1 : (w.alloc (.cells #[] 126)).heap.size = w.heap.size + 1 := by simp
  rw [e1] at A2
  generalize nonL 2 n = V at *
  clear A1 B4 e1
  unfold S
  go_enter Tryz.func162, Tryz.ntmps162
  go_wp2_with fail
  (with_reducible refine A2.mono ?_)
  rintro e x ⟨v, rfl, hb, hbl⟩
  have hcv := conv_brow hb
  unfold S at hcv
  have HG2 := Lib.hid (grow_below_trans HG.out hbl (by omega))
  clear hb hbl A2 HG M
  go_wp2_with fail
  go_ret
  exact ⟨rfl, HG2.out⟩

end Go.Proofs.YtcmncdaojmkfgaaGreatDoor

namespace Go.Proofs.YtcmncdaojmkfgaaGreatDoor
open Go.RowKit
set_option linter.unusedVariables false

def Blk (w : World) (B : Nat) (t : TypeId) (vs : List Value) : Prop := w.heap[B]? = some (.cells vs.toArray t (0, 0))

theorem Blk.lt {w : World} {B : Nat} {t : TypeId} {vs : List Value} (h : Blk w B t vs) : B < w.heap.size := lt_of_obj h

theorem Blk.cell {w : World} {B : Nat} {t : TypeId} {vs : List Value} (h : Blk w B t vs) (i : Nat) : w.cell? ⟨B, i, none⟩ = vs[i]? := by
  rw [obj_cell h]
  simp

theorem Blk.frozen {w : World} {B : Nat} {t : TypeId} {vs : List Value} (h : Blk w B t vs) (i : Nat) : w.frozen? ⟨B, i, none⟩ = false := obj_frozen h i

theorem Blk.set {w : World} {B : Nat} {t : TypeId} {vs : List Value} (h : Blk w B t vs) (i : Nat) (v : Value) : Blk (w.setCell ⟨B, i, none⟩ v) B t (vs.set i v) := by
  unfold Blk
  rw [obj_setCell h]
  simp

theorem Blk.kept {w w' : World} {B : Nat} {t : TypeId} {vs : List Value} {r : Option Nat} (h : Blk w B t vs) (g : w.grownBy w' r) (hr : some B ≠ r) : Blk w' B t vs := grow_obj g h hr

theorem Blk.drew {w : World} {B : Nat} {t : TypeId} {vs : List Value} (h : Blk w B t vs) : Blk w.drew B t vs := h

theorem Blk.new (w : World) (t : TypeId) (vs : List Value) : Blk (w.alloc (.cells vs.toArray t)) w.heap.size t vs := obj_new w _

theorem Blk.range {w : World} {B : Nat} {t : TypeId} {vs : List Value} (h : Blk w B t vs) : w.rangeAt B 0 vs := by
  intro j v hv
  rw [Nat.zero_add, h.cell]
  exact hv

theorem Blk.there {w : World} {B : Nat} {t : TypeId} {vs : List Value} (h : Blk w B t vs) (n : Nat) (hn : vs.length = n) : w.there B 0 n := by
  subst hn
  intro j hj
  rw [Nat.zero_add, h.cell, List.getElem?_eq_getElem hj]
  exact ⟨rfl, h.frozen j⟩

theorem setCells_obj (b : Nat) : ∀ (vs : List Value) (o : Nat) (w : World) (c : List Value) (t : TypeId), Blk w b t c → Blk (w.setCells b o vs) b t ((c.take o ++ vs ++ c.drop (o + vs.length)).take c.length) ∨ c.length < o + vs.length
  | [], o, w, c, t, h => by
    left
    simp only [World.setCells, List.append_nil, List.length_nil, Nat.add_zero, List.take_append_drop, List.take_length]
    exact h
  | v :: r, o, w, c, t, h => by
    rcases setCells_obj b r (o + 1) (w.setCell ⟨b, o, none⟩ v) (c.set o v) t (h.set o v) with h1 | h1
    · by_cases q : o < c.length
      · left
        simp only [World.setCells]
        have e : ((c.set o v).take (o + 1) ++ r ++ (c.set o v).drop (o + 1 + r.length)).take (c.set o v).length = (c.take o ++ (v :: r) ++ c.drop (o + (v :: r).length)).take c.length := by
          rw [List.length_set, List.take_succ_eq_append_getElem (by simpa using q), List.getElem_set_self, List.take_set_of_le (Nat.le_refl _), List.drop_set_of_lt (by omega)]
          simp only [List.length_cons, List.append_assoc, List.cons_append, List.nil_append]
          rw [show o + 1 + r.length = o + (r.length + 1) from by omega]
        rw [← e]
        exact h1
      · right
        simp only [List.length_cons]
        omega
    · right
      simp only [List.length_set, List.length_cons] at h1 ⊢
      omega

/-- The whole array is stored. -/
theorem Blk.store {w : World} {B : Nat} {t : TypeId} {c : List Value} (h : Blk w B t c) (vs : List Value) (hn : vs.length = c.length) : Blk (w.setCells B 0 vs) B t vs := by
  rcases setCells_obj B vs 0 w c t h with h1 | h1
  · rw [List.take_zero, List.nil_append, Nat.zero_add, hn, List.drop_length, List.append_nil, List.take_of_length_le (by omega)] at h1
    exact h1
  · omega

theorem grow_setCells (k : Nat) : ∀ (vs : List Value) (o : Nat) (a b : World), a.grownBy b (some k) → a.grownBy (b.setCells k o vs) (some k)
  | [], _, _, _, h => h
  | v :: r, o, a, b, h => grow_setCells k r (o + 1) a (b.setCell ⟨k, o, none⟩ v) (grow_setCell h o v)

theorem grow_setCells_new {a b : World} {r : Option Nat} (h : a.grownBy b r) (k : Nat) (hk : a.heap.size ≤ k) (o : Nat) (vs : List Value) : a.grownBy (b.setCells k o vs) r :=
  grow_trans_new h (grow_setCells k vs o b b (grow_refl _ _)) hk

theorem setCells_new (w : World) (t : TypeId) : ∀ (vs pre c : List Value), vs.length = c.length → (w.alloc (.cells (pre ++ c).toArray t)).setCells w.heap.size pre.length vs = w.alloc (.cells (pre ++ vs).toArray t)
  | [], pre, c, h => by
    obtain rfl : c = [] := List.eq_nil_of_length_eq_zero h.symm
    rfl
  | v :: vs, pre, d :: c, h => by
    rw [World.setCells, World.setCell_alloc_at _ _ _ _ _ rfl]
    have e : (pre ++ d :: c).toArray.setIfInBounds pre.length v = ((pre ++ [v]) ++ c).toArray := by simp
    rw [e]
    have := setCells_new w t vs (pre ++ [v]) c (by simpa using h)
    rw [List.length_append, List.length_singleton] at this
    rw [this, List.append_assoc]
    rfl
  | _ :: _, _, [], h => by simp at h

/-- An array stored into the block that the call has just made. -/
theorem run_store_new {P : Program} (w : World) (c : Array Value) (t : TypeId) (vs : List Value) (hn : vs.length = c.size) (h1 : ∀ v ∈ vs, v.oneCell' = true) :
    (storeCells ⟨w.heap.size, 0, none⟩ vs).run P (w.alloc (.cells c t)) = .ok () (w.alloc (.cells vs.toArray t)) := by
  have hb : Blk (w.alloc (.cells c t)) w.heap.size t c.toList := obj_new w _
  have ht := hb.there c.size (by simp)
  have := run_storeCells_cells (P := P) w.heap.size 0 vs 0 (w.alloc (.cells c t)) (fun j hj => (ht j (by omega)).1) (fun j hj => (ht j (by omega)).2) h1
  rw [this]
  have e := setCells_new w t vs [] c.toList (by rw [hn, Array.length_toList])
  simp only [List.nil_append, List.length_nil] at e
  rw [show (c.toList.toArray : Array Value) = c from by simp] at e
  rw [show (0 + 0 : Nat) = 0 from rfl, e]

/-- One result that lies in a variable's cells: an array. -/
theorem results_row {P : Program} {fn : Func} {t : Tmp} {ty : TypeId} (h : fn.results = #[.cell t ty]) (tmps : Array Value) (w : World) (B : Nat) (hp : tmps.getD t undef = .pointer (some ⟨B, 0, none⟩)) (vs : List Value) (d : TypeDesc)
    (hb : Blk w B ty vs) (hu : P.underlying ty = some d) (hd : d.isRow = true) (hi : (P.info? ty).map (·.size) = some vs.length) : (results fn tmps).run P w = .ok (.agg vs.toArray) w := by
  have hl := run_loadVar_mid w B 0 ty vs d hb.range hu hd hi
  rw [Array.getD_eq_getD_getElem?] at hp
  simp [results, h, hp, hl, asAddr]

end Go.Proofs.YtcmncdaojmkfgaaGreatDoor

namespace Go.Proofs.YtcmncdaojmkfgaaGreatDoor
open Go.RowKit
set_option linter.unusedVariables false

/-- The block b's first cells are these bytes, and they may be written. -/
def Bys (w : World) (b : Nat) (l : List UInt8) : Prop := ∀ i (h : i < l.length), w.cell? ⟨b, i, none⟩ = some (.int .u8 (l[i].toNat : Int)) ∧ w.frozen? ⟨b, i, none⟩ = false

theorem Bys.cell {w : World} {b : Nat} {l : List UInt8} (h : Bys w b l) (i : Nat) (hi : i < l.length) : w.cell? ⟨b, i, none⟩ = some (.int .u8 (l[i].toNat : Int)) := (h i hi).1
theorem Bys.frozen {w : World} {b : Nat} {l : List UInt8} (h : Bys w b l) (i : Nat) (hi : i < l.length) : w.frozen? ⟨b, i, none⟩ = false := (h i hi).2

theorem Bys.kept {w w' : World} {b : Nat} {l : List UInt8} {r : Option Nat} (h : Bys w b l) (hb : b < w.heap.size) (g : w.grownBy w' r) (hr : some b ≠ r) : Bys w' b l := by
  intro i hi
  have e := g.block b hb hr
  obtain ⟨h1, h2⟩ := h i hi
  refine ⟨g.cell (a := ⟨b, i, none⟩) h1 hr, ?_⟩
  unfold World.frozen? at h2 ⊢
  simp only at h2 ⊢
  rwa [e]

theorem Bys.drew {w : World} {b : Nat} {l : List UInt8} (h : Bys w b l) : Bys w.drew b l := h

theorem Bys.set {w : World} {b : Nat} {l : List UInt8} (h : Bys w b l) (k : Nat) (c : UInt8) (hk : k < l.length) : Bys (w.setCell ⟨b, k, none⟩ (.int .u8 (c.toNat : Int))) b (l.set k c) := by
  intro i hi
  rw [List.length_set] at hi
  obtain ⟨h1, h2⟩ := h i hi
  refine ⟨?_, by rw [World.frozen?_setCell]; exact h2⟩
  obtain ⟨h3, _⟩ := h k hk
  unfold World.cell? at h1 h3 ⊢
  simp only [World.setCell, Array.getElem?_modify] at h1 h3 ⊢
  simp only [if_true]
  cases hb : w.heap[b]? with
  | none => rw [hb] at h1; simp at h1
  | some o =>
    rw [hb] at h1 h3
    cases o with
    | cells cs t f =>
      simp only [Option.map_some, List.getElem_set] at h1 h3 ⊢
      have hks : k < cs.size := by
        rcases Nat.lt_or_ge k cs.size with q | q
        · exact q
        · simp [Array.getElem?_eq_none q] at h3
      have e0 : (none : Option Nat).isSome = false := rfl
      by_cases e : k = i
      · subst e
        simp [hks]
      · simp only [if_neg e] at *
        have h4 : cs[i]? = some (Value.int IntKind.u8 ↑l[i].toNat) := h1
        show (cs.setIfInBounds k _)[i]? = _
        rw [Array.getElem?_setIfInBounds, if_neg e, h4]
    | _ => simp at h1

theorem to_bytes (w : World) (l : List UInt8) (hl : l.length ≤ 9223372036854775807) :
    ∃ cap w', (convert 9 90 (.string ⟨l.toArray⟩)).run Tryz.prog w = .ok (.slice (some ⟨w.heap.size, 0, none⟩) l.length cap) w' ∧ l.length ≤ cap ∧ w.grownBy w' none ∧ w.heap.size < w'.heap.size ∧ Bys w' w.heap.size l := by
  have h := run_bytes_of_string (P := Tryz.prog) w 9 90 5 ⟨l.toArray⟩ Tryz.underlying9 Tryz.underlying90 Tryz.underlying5
  refine ⟨_, _, h, grownCap_ge _ _ _ _, grow_alloc (grow_drew (grow_refl _ _)) _, by simp, fun i hi => ?_⟩
  have hnew : ∀ o : Obj, (w.drew.alloc o).heap[w.heap.size]? = some o := fun o => obj_new w.drew o
  have hs : i < (bytesRow ⟨l.toArray⟩ (grownCap w (ByteArray.size ⟨l.toArray⟩) 0 5)).size := by
    unfold bytesRow
    simp [ByteArray.size]
    omega
  constructor
  · unfold World.cell?
    simp only [hnew]
    unfold bytesRow
    rw [Array.getElem?_append_left (by simpa using hi)]
    simp [hi]
  · unfold World.frozen?
    simp only [hnew, Bool.and_eq_false_iff, decide_eq_false_iff_not]
    left
    omega

theorem conv_bys {w : World} {b : Nat} {l : List UInt8} (h : Bys w b l) (cap : Nat) : (convert 90 9 (.slice (some ⟨b, 0, none⟩) l.length cap)).run Tryz.prog w = .ok (.string ⟨l.toArray⟩) w := by
  refine run_convert_bytes_back (P := Tryz.prog) w 90 9 5 ⟨b, 0, none⟩ cap l Tryz.underlying90 Tryz.underlying5 Tryz.underlying9 fun j hj => ?_
  have e : (⟨b, 0, none⟩ : Addr).add j = ⟨b, j, none⟩ := by unfold Addr.add; split <;> simp_all
  rw [e]
  exact h.cell j hj

end Go.Proofs.YtcmncdaojmkfgaaGreatDoor

namespace Go.Proofs.YtcmncdaojmkfgaaGreatDoor
open Go.RowKit
set_option linter.unusedVariables false

theorem size_of_info {P : Program} {e : TypeId} {n : Nat} (h : (P.info? e).map (·.size) = some n) (w : World) : (Go.sizeOf e).run P w = .ok n w := by
  cases hq : P.info? e with
  | none => rw [hq] at h; simp at h
  | some i =>
    rw [hq] at h
    have hi : i.size = n := by simpa using h
    simp [sizeOf, typeInfo, hq, hi]

theorem run_index_one {P : Program} (w : World) (t e : TypeId) (n : Nat) (cs : Array Value) (i : Nat) (v : Value) (h : P.underlying t = some (.array n e)) (hz : (P.info? e).map (·.size) = some 1) (he : P.plainKey e = true) (hi : i < n) (hv : cs[i]? = some v) :
    (Instr.index t (.agg cs) (.int .i64 (i : Int))).run P w = .ok v w := by
  have h1 : (0 : Int) ≤ (i : Int) ∧ (i : Int) < (n : Int) := by omega
  have h2 := size_of_info hz w
  have h3 := run_part_plain (P := P) (w := w) he hv
  simp only [part, Sem.run_bind] at h3
  simp [Instr.index, run_underlying h, asIntOf, hi, h2, part, go_sem]
  simpa [go_sem] using h3

end Go.Proofs.YtcmncdaojmkfgaaGreatDoor

namespace Go.Proofs.YtcmncdaojmkfgaaGreatDoor
open Go.RowKit
set_option linter.unusedVariables false

/-- The first i are turned. -/
def kmapK (f : UInt8 → UInt8) (l : List UInt8) (i : Nat) : List UInt8 := (l.map f).take i ++ l.drop i
theorem kmapK_zero (f : UInt8 → UInt8) (l : List UInt8) : kmapK f l 0 = l := rfl
theorem kmapK_all (f : UInt8 → UInt8) (l : List UInt8) (n : Nat) (h : l.length = n) : kmapK f l n = l.map f := by
  subst h
  unfold kmapK
  rw [List.drop_length, List.append_nil, List.take_of_length_le (by simp)]
theorem kmapK_length (f : UInt8 → UInt8) (l : List UInt8) (i : Nat) : (kmapK f l i).length = l.length := by
  unfold kmapK
  rw [List.length_append, List.length_take, List.length_drop, List.length_map]
  omega
theorem kmapK_at (f : UInt8 → UInt8) (l : List UInt8) (i : Nat) (h : i < l.length) : (kmapK f l i)[i]'(by rw [kmapK_length]; exact h) = l[i] := by
  unfold kmapK
  rw [List.getElem_append_right (by rw [List.length_take]; omega)]
  simp [Nat.min_eq_left (Nat.le_of_lt h)]
theorem kmapK_set (f : UInt8 → UInt8) (l : List UInt8) (i : Nat) (h : i < l.length) : (kmapK f l i).set i (f l[i]) = kmapK f l (i + 1) := by
  unfold kmapK
  rw [List.set_append_right _ _ (by rw [List.length_take]; omega), List.length_take, List.length_map, Nat.min_eq_left (Nat.le_of_lt h), Nat.sub_self]
  have e : l.drop i = l[i] :: l.drop (i + 1) := List.drop_eq_getElem_cons h
  rw [List.take_succ_eq_append_getElem (by simpa using h)]
  simp
  rw [e]
  rfl

/-- 'copy(b[:], text)': as many bytes as both have. -/
theorem run_copy_upto {P : Program} (w : World) (dT sT ty elem : TypeId) (b o dLen dCap : Nat) (l : List UInt8)
    (hu : P.underlying dT = some (.slice elem)) (hz : ∀ w, (Go.sizeOf elem).run P w = .ok 1 w)
    (hc : ∀ j, j < (l.take dLen).length → (w.cell? ⟨b, o + j, none⟩).isSome = true) (hf : ∀ j, j < (l.take dLen).length → w.frozen? ⟨b, o + j, none⟩ = false) :
    (Builtin.copy_ #[dT, sT] ty #[.slice (some ⟨b, o, none⟩) dLen dCap, .string ⟨l.toArray⟩]).run P w = .ok (goInt (Nat.min l.length dLen : Nat)) (w.setCells b o ((l.take dLen).map bcell)) := by
  have hst := run_storeCells_cells (P := P) b o ((l.take dLen).map bcell) 0 w (by rw [List.length_map]; simpa using hc) (by rw [List.length_map]; simpa using hf) (by
    intro v hv
    obtain ⟨x, _, rfl⟩ := List.mem_map.1 hv
    rfl)
  simp only [Nat.add_zero] at hst
  have e : (l.map fun x => Value.int IntKind.u8 (x.toNat : Int)).take (Nat.min l.length dLen) = (l.take dLen).map bcell := by
    rw [← List.map_take]
    show (l.take (min l.length dLen)).map bcell = _
    rw [Nat.min_comm, ← List.take_take, List.take_length]
  simp [Builtin.copy_, run_underlying hu, Builtin.lenOf, Builtin.firstCells, hz]
  rw [show (ByteArray.mk l.toArray).size = l.length from by simp [ByteArray.size], e, hst]
  simp only [Result.andThen_ok, ← List.map_take]

def padM (key : List UInt8) (c : UInt8) : List UInt8 := (sizedL key 64).map fun x => x ^^^ c
theorem padM_length (key : List UInt8) (c : UInt8) : (padM key c).length = 64 := by unfold padM; rw [List.length_map, sizedL_length]
def PB (w : World) (B : Nat) (l : List UInt8) : Prop := Blk w B 163 (l.map bcell)
theorem PB.bys {w : World} {B : Nat} {l : List UInt8} (h : PB w B l) : Bys w B l := fun i hi => ⟨by rw [Blk.cell h, List.getElem?_map, List.getElem?_eq_getElem hi]; rfl, Blk.frozen h i⟩
theorem info_u8s : (Tryz.prog.info? 5).map (·.size) = some 1 := by kernel_rfl
theorem xor_u8 (a c : UInt8) : bits .xor .u8 (a.toNat : Int) (c.toNat : Int) = (((a ^^^ c).toNat : Nat) : Int) := by
  rw [u8_xor_nat _ _ (u8_lt a) (u8_lt c), UInt8.toNat_xor]
theorem pad_copied {w : World} {B : Nat} (h : PB w B (zerosL 64)) (key : List UInt8) (hk : key.length ≤ 64) : PB (w.setCells B 0 ((key.take 64).map bcell)) B (sizedL key 64) := by
  rcases setCells_obj B ((key.take 64).map bcell) 0 w ((zerosL 64).map bcell) 163 h with h1 | h1
  · have e : (((zerosL 64).map bcell).take 0 ++ (key.take 64).map bcell ++ ((zerosL 64).map bcell).drop (0 + ((key.take 64).map bcell).length)).take ((zerosL 64).map bcell).length = (sizedL key 64).map bcell := by
      have e1 : (zerosL 64).drop key.length = zerosL (64 - key.length) := by unfold zerosL; rw [List.drop_replicate]
      rw [List.take_zero, List.nil_append, Nat.zero_add, List.length_map, List.length_map, List.take_of_length_le hk, ← List.map_drop, e1, ← List.map_append, ← List.map_take]
      unfold sizedL
      rw [List.take_of_length_le hk, List.take_of_length_le (by simp [zerosL]; omega)]
    rw [e] at h1
    exact h1
  · exfalso
    simp [zerosL] at h1
    omega

set_option maxRecDepth 20000 in
set_option maxHeartbeats 2000000 in
theorem code_pad (w : World) (key : List UInt8) (c : UInt8) (hk : key.length ≤ 64) : Calls Tryz.prog 91 #[S key, .int .u8 (c.toNat : Int)] w (Grown (S (padM key c)) w) := by
  obtain ⟨B, hB⟩ : ∃ B, B = w.heap.size := ⟨_, rfl⟩
  obtain ⟨x, hx⟩ : ∃ x, x = w.alloc (.cells #[.int .u8 0, .int .u8 0, .int .u8 0, .int .u8 0, .int .u8 0, .int .u8 0, .int .u8 0, .int .u8 0, .int .u8 0, .int .u8 0, .int .u8 0, .int .u8 0, .int .u8 0, .int .u8 0, .int .u8 0, .int .u8 0, .int .u8 0, .int .u8 0, .int .u8 0, .int .u8 0, .int .u8 0, .int .u8 0, .int .u8 0, .int .u8 0, .int .u8 0, .int .u8 0, .int .u8 0, .int .u8 0, .int .u8 0, .int .u8 0, .int .u8 0, .int .u8 0, .int .u8 0, .int .u8 0, .int .u8 0, .int .u8 0, .int .u8 0, .int .u8 0, .int .u8 0, .int .u8 0, .int .u8 0, .int .u8 0, .int .u8 0, .int .u8 0, .int .u8 0, .int .u8 0, .int .u8 0, .int .u8 0, .int .u8 0, .int .u8 0, .int .u8 0, .int .u8 0, .int .u8 0, .int .u8 0, .int .u8 0, .int .u8 0, .int .u8 0, .int .u8 0, .int .u8 0, .int .u8 0, .int .u8 0, .int .u8 0, .int .u8 0, .int .u8 0] 163) := ⟨_, rfl⟩
  have bz : PB x B (zerosL 64) := by rw [hx, hB]; exact obj_new _ _
  have hgx : w.grownBy x none := by rw [hx]; exact grow_alloc (grow_refl w none) _
  have hcp := run_copy_upto (P := Tryz.prog) x 90 9 3 5 B 0 64 64 key Tryz.underlying90 (fun W => size_of_info info_u8s W)
    (fun j hj => by rw [Nat.zero_add, Blk.cell bz j, List.getElem?_eq_getElem (by rw [List.length_take] at hj; simp [zerosL]; omega)]; rfl) (fun j hj => Blk.frozen bz _)
  have b1 := pad_copied bz key hk
  have hg1 : w.grownBy (x.setCells B 0 ((key.take 64).map bcell)) none := grow_setCells_new hgx B (by omega) _ _
  obtain ⟨y, hy⟩ : ∃ y, y = x.setCells B 0 ((key.take 64).map bcell) := ⟨_, rfl⟩
  rw [← hy] at hcp b1 hg1
  have lz := sizedL_length key 64
  have hfin : padM key c = kmapK (fun x => x ^^^ c) (sizedL key 64) 64 := by rw [kmapK_all _ _ 64 lz]; rfl
  obtain ⟨V, hV⟩ : ∃ V, V = padM key c := ⟨_, rfl⟩
  rw [← hV] at hfin ⊢
  obtain ⟨l, hl⟩ : ∃ l, l = sizedL key 64 := ⟨_, rfl⟩
  rw [← hl] at b1 lz hfin
  have HFV := Lib.hid hfin
  have HB1 := Lib.hid b1
  have HG1 := Lib.hid hg1
  have HX := Lib.hid hx
  have HBB := Lib.hid hB
  have HLZ := Lib.hid lz
  have HFIN : Hid (kmapK (fun x => x ^^^ c) l 0 = l) := Lib.hid (kmapK_zero _ _)
  clear hB hx bz hgx b1 hg1 hy lz hfin hl hV
  unfold S
  go_enter Tryz.func91, Tryz.ntmps91
  go_upto_region 2 with (fail)
  rw [← HBB.out, ← HX.out]
  go_upto_region 3 with (fail)
  clear hcp
  go_wp2_with fail
  go_loopw [10] (fun v10 wr => ∃ i : Nat, i ≤ 64 ∧ v10 = .int .i64 i ∧ Hid (PB wr B (kmapK (fun x => x ^^^ c) l i)) ∧ Hid (w.grownBy wr none)) (fun v10 _ => 64 - (intOf v10).toNat)
  case atStart => exact ⟨0, by omega, rfl, by rw [HFIN.out]; exact HB1, HG1⟩
  case round =>
    clear HB1 HG1
    obtain ⟨i, hi, rfl, hK, hg⟩ := hrel
    have lm : (kmapK (fun x => x ^^^ c) l i).length = 64 := by rw [kmapK_length, HLZ.out]
    by_cases hlt : i < 64
    · have hil : i < l.length := by rw [HLZ.out]; exact hlt
      have ca : wr.cell? ⟨B, i, none⟩ = some (.int .u8 (l[i].toNat : Int)) := by
        rw [Blk.cell hK.out, List.getElem?_map, List.getElem?_eq_getElem (by omega), kmapK_at _ _ _ hil]
        rfl
      have cf : wr.frozen? ⟨B, i, none⟩ = false := Blk.frozen hK.out i
      have hs := Blk.set hK.out i (bcell (l[i] ^^^ c))
      rw [← List.map_set, kmapK_set (fun x => x ^^^ c) l i hil] at hs
      have xb := xor_u8 l[i] c
      have HS := Lib.hid hs
      have HG := Lib.hid (grow_setCell_new hg.out ⟨B, i, none⟩ (by have := HBB.out; simp; omega) (bcell (l[i] ^^^ c)))
      unfold bcell at HS HG
      clear hs hK hg lm
      generalize (l[i] ^^^ c).toNat = n at *
      generalize l[i].toNat = a at *
      have hd : decide ((i : Int) < 64) = true := by simp; omega
      go_wp2_with fail
      go_roundw
      case rel => exact ⟨i + 1, by omega, by go_num, HS, HG⟩
      case measure => simp [intOf]; omega
    · obtain rfl : i = 64 := by omega
      have hcv := conv_bys (PB.bys hK.out) 64
      rw [lm] at hcv
      rw [← HFV.out] at hcv
      clear hK lm hlt
      go_wp2_with fail
      go_ret
      exact ⟨rfl, hg.out⟩

end Go.Proofs.YtcmncdaojmkfgaaGreatDoor

namespace Go.Proofs.YtcmncdaojmkfgaaGreatDoor
open Go.RowKit
set_option linter.unusedVariables false

def rotl32 (x s : Nat) : Nat := x * 2 ^ s % 4294967296 ||| x / 2 ^ (32 - s)

theorem rotl32_lt {x s : Nat} (hx : x < 4294967296) : rotl32 x s < 4294967296 :=
  Nat.or_lt_two_pow (n := 32) (Nat.mod_lt _ (by omega)) (Nat.lt_of_le_of_lt (Nat.div_le_self _ _) hx)

theorem xor32_lt {a b : Nat} (ha : a < 4294967296) (hb : b < 4294967296) : a ^^^ b < 4294967296 := Nat.xor_lt_two_pow (n := 32) ha hb

theorem rot32_val {x s : Nat} (hx : x < 4294967296) (X : Int) (hX : X = ((x * 2 ^ s % 4294967296 : Nat) : Int)) (Y : Int) (hY : Y = ((x / 2 ^ (32 - s) : Nat) : Int)) :
    bits .or .u32 X Y = ((rotl32 x s : Nat) : Int) := by
  subst hX hY
  rw [u32_or_nat _ _ (Nat.mod_lt _ (by omega)) (Nat.lt_of_le_of_lt (Nat.div_le_self _ _) hx)]
  rfl

theorem or_split (x s : Nat) (hx : x < 4294967296) (hs : s ≤ 32) : rotl32 x s = x % 2 ^ (32 - s) * 2 ^ s + x / 2 ^ (32 - s) := by
  unfold rotl32
  have e : (4294967296 : Nat) = 2 ^ (32 - s) * 2 ^ s := by rw [← Nat.pow_add, show 32 - s + s = 32 from by omega]
  have h : x / 2 ^ (32 - s) < 2 ^ s := by
    rw [Nat.div_lt_iff_lt_mul (Nat.two_pow_pos _), Nat.mul_comm, ← e]
    exact hx
  have e1 : x * 2 ^ s % 4294967296 = x % 2 ^ (32 - s) * 2 ^ s := by rw [e, Nat.mul_mod_mul_right]
  rw [e1, Nat.mul_comm, Nat.two_pow_add_eq_or_of_lt h]

theorem rotl32_back (x s : Nat) (hx : x < 4294967296) (h0 : 0 < s) (hs : s < 32) : rotl32 (rotl32 x s) (32 - s) = x := by
  rw [or_split _ _ (rotl32_lt hx) (by omega), or_split _ _ hx (by omega), show 32 - (32 - s) = s from by omega]
  have e : (4294967296 : Nat) = 2 ^ (32 - s) * 2 ^ s := by rw [← Nat.pow_add, show 32 - s + s = 32 from by omega]
  have h : x / 2 ^ (32 - s) < 2 ^ s := by
    rw [Nat.div_lt_iff_lt_mul (Nat.two_pow_pos _), Nat.mul_comm, ← e]
    exact hx
  have h1 := Nat.two_pow_pos s
  generalize 2 ^ s = p at *
  generalize 2 ^ (32 - s) = q at *
  rw [Nat.mul_comm (x % q) p, Nat.mul_add_mod, Nat.mod_eq_of_lt h, Nat.mul_add_div h1, Nat.div_eq_of_lt h, Nat.add_zero, Nat.mul_comm]
  exact Nat.div_add_mod x q

set_option maxHeartbeats 400000 in
theorem rot32_any (x s : Nat) (k : Int) (w : World) (hx : x < 4294967296) (hk : bits .and .u64 (IntKind.u64.wrap k) 31 = (s : Int)) (h0 : 0 < s) (h32 : s < 32) :
    Calls Tryz.prog 115 #[.int .u32 x, .int .i64 k] w fun e w' => e = .returned (.int .u32 (rotl32 x s : Nat)) ∧ w = w' := by
  have e2 : IntKind.u64.wrap (32 - (s : Int)) = 32 - (s : Int) := IntWalk.u64_in _ (by omega)
  have e3 : (s : Int) ≤ 32 := by omega
  have e4 : 32 - (s : Int) ≤ 32 := by omega
  have e5 : 0 ≤ 32 - (s : Int) := by omega
  go_enter Tryz.func115, Tryz.ntmps115
  go_wp2
  go_ret
  refine ⟨ret_int ?_, rfl⟩
  refine rot32_val hx _ ?_ _ ?_
  · simp
  · simp

end Go.Proofs.YtcmncdaojmkfgaaGreatDoor

namespace Go.Proofs.YtcmncdaojmkfgaaGreatDoor
set_option linter.unusedVariables false

def sadd (a b : Nat) : Nat := (a + b) % 4294967296
def shaK : List Nat := [
  0x428a2f98, 0x71374491, 0xb5c0fbcf, 0xe9b5dba5, 0x3956c25b, 0x59f111f1, 0x923f82a4, 0xab1c5ed5,
  0xd807aa98, 0x12835b01, 0x243185be, 0x550c7dc3, 0x72be5d74, 0x80deb1fe, 0x9bdc06a7, 0xc19bf174,
  0xe49b69c1, 0xefbe4786, 0x0fc19dc6, 0x240ca1cc, 0x2de92c6f, 0x4a7484aa, 0x5cb0a9dc, 0x76f988da,
  0x983e5152, 0xa831c66d, 0xb00327c8, 0xbf597fc7, 0xc6e00bf3, 0xd5a79147, 0x06ca6351, 0x14292967,
  0x27b70a85, 0x2e1b2138, 0x4d2c6dfc, 0x53380d13, 0x650a7354, 0x766a0abb, 0x81c2c92e, 0x92722c85,
  0xa2bfe8a1, 0xa81a664b, 0xc24b8b70, 0xc76c51a3, 0xd192e819, 0xd6990624, 0xf40e3585, 0x106aa070,
  0x19a4c116, 0x1e376c08, 0x2748774c, 0x34b0bcb5, 0x391c0cb3, 0x4ed8aa4a, 0x5b9cca4f, 0x682e6ff3,
  0x748f82ee, 0x78a5636f, 0x84c87814, 0x8cc70208, 0x90befffa, 0xa4506ceb, 0xbef9a3f7, 0xc67178f2]
def shaI : List Nat := [0x6a09e667, 0xbb67ae85, 0x3c6ef372, 0xa54ff53a, 0x510e527f, 0x9b05688c, 0x1f83d9ab, 0x5be0cd19]

/-- turned to the right by a, by b, moved down by c -/
def mixS (x a b c : Nat) : Nat := (rotl32 x (32 - a) ^^^ rotl32 x (32 - b)) ^^^ x / 2 ^ c
/-- turned to the right by a, by b, by c -/
def mixR (x a b c : Nat) : Nat := (rotl32 x (32 - a) ^^^ rotl32 x (32 - b)) ^^^ rotl32 x (32 - c)

def wNext (b : List UInt8) (l : List Nat) (t : Nat) : Nat :=
  if t < 16 then bigN ((b.drop (4 * t)).take 4)
  else sadd (sadd (sadd (l.getD (t - 16) 0) (l.getD (t - 7) 0)) (mixS (l.getD (t - 15) 0) 7 18 3)) (mixS (l.getD (t - 2) 0) 17 19 10)
def sched (b : List UInt8) : Nat → List Nat
  | 0 => []
  | t + 1 => sched b t ++ [wNext b (sched b t) t]
theorem sched_length (b : List UInt8) : ∀ t, (sched b t).length = t
  | 0 => rfl
  | t + 1 => by rw [sched, List.length_append, sched_length b t]; rfl

def shaOne (v : List Nat) (k w : Nat) : Nat :=
  sadd (sadd (sadd (sadd (v.getD 7 0) (mixR (v.getD 4 0) 6 11 25)) ((v.getD 4 0 &&& v.getD 5 0) ^^^ ((4294967295 ^^^ v.getD 4 0) &&& v.getD 6 0))) k) w
def shaTwo (v : List Nat) : Nat :=
  sadd (mixR (v.getD 0 0) 2 13 22) (((v.getD 0 0 &&& v.getD 1 0) ||| (v.getD 0 0 &&& v.getD 2 0)) ||| (v.getD 1 0 &&& v.getD 2 0))
def shaR (v : List Nat) (k w : Nat) : List Nat :=
  [sadd (shaOne v k w) (shaTwo v), v.getD 0 0, v.getD 1 0, v.getD 2 0, sadd (v.getD 3 0) (shaOne v k w), v.getD 4 0, v.getD 5 0, v.getD 6 0]
def shaRs (ws v : List Nat) : Nat → List Nat
  | 0 => v
  | t + 1 => shaR (shaRs ws v t) (shaK.getD t 0) (ws.getD t 0)
def sumW (a b : List Nat) : List Nat := List.zipWith sadd a b
def takenL (s : List Nat) (b : List UInt8) : List Nat := sumW s (shaRs (sched b 64) s 64)

theorem shaRs_length (ws v : List Nat) (hv : v.length = 8) : ∀ t, (shaRs ws v t).length = 8
  | 0 => hv
  | t + 1 => rfl
theorem takenL_length (s : List Nat) (b : List UInt8) (hs : s.length = 8) : (takenL s b).length = 8 := by
  unfold takenL sumW
  rw [List.length_zipWith, shaRs_length _ _ hs, hs]; rfl

/-- all whole blocks of a text, and what is left of it -/
def absorb : Nat → List Nat → List UInt8 → List Nat × List UInt8
  | 0, s, r => (s, r)
  | f + 1, s, r => if 64 ≤ r.length then absorb f (takenL s (r.take 64)) (r.drop 64) else (s, r)
def absorbL (s : List Nat) (r : List UInt8) : List Nat × List UInt8 := absorb r.length s r

theorem absorb_fuel : ∀ (f g : Nat) (s : List Nat) (r : List UInt8), r.length ≤ 64 * f → r.length ≤ 64 * g → absorb f s r = absorb g s r
  | 0, 0, s, r, _, _ => rfl
  | 0, g + 1, s, r, h, _ => by rw [absorb, absorb, if_neg (by omega)]
  | f + 1, 0, s, r, _, h => by rw [absorb, absorb, if_neg (by omega)]
  | f + 1, g + 1, s, r, h1, h2 => by
    rw [absorb, absorb]
    split
    · exact absorb_fuel f g _ _ (by rw [List.length_drop]; omega) (by rw [List.length_drop]; omega)
    · rfl

theorem absorb_app : ∀ (f g : Nat) (s : List Nat) (r t : List UInt8), r.length ≤ 64 * f → r.length + t.length ≤ 64 * g →
    absorb g s (r ++ t) = absorb g (absorb f s r).1 ((absorb f s r).2 ++ t)
  | 0, g, s, r, t, h1, h2 => rfl
  | f + 1, g, s, r, t, h1, h2 => by
    rw [absorb]
    by_cases h : 64 ≤ r.length
    · rw [if_pos h]
      cases g with
      | zero => omega
      | succ g =>
        rw [absorb, if_pos (by rw [List.length_append]; omega), List.take_append_of_le_length h, List.drop_append_of_le_length h]
        rw [absorb_app f g _ _ t (by rw [List.length_drop]; omega) (by rw [List.length_drop]; omega)]
        refine absorb_fuel _ _ _ _ ?_ ?_
        · have : ((absorb f (takenL s (r.take 64)) (r.drop 64)).2).length ≤ (r.drop 64).length := by
            clear h2 h1
            generalize takenL s (r.take 64) = s'
            generalize r.drop 64 = r'
            induction f generalizing s' r' with
            | zero => exact Nat.le_refl _
            | succ f ih =>
              rw [absorb]; split
              · exact Nat.le_trans (ih _ _) (by rw [List.length_drop]; omega)
              · exact Nat.le_refl _
          rw [List.length_drop] at this
          rw [List.length_append]; omega
        · have : ((absorb f (takenL s (r.take 64)) (r.drop 64)).2).length ≤ (r.drop 64).length := by
            clear h2 h1
            generalize takenL s (r.take 64) = s'
            generalize r.drop 64 = r'
            induction f generalizing s' r' with
            | zero => exact Nat.le_refl _
            | succ f ih =>
              rw [absorb]; split
              · exact Nat.le_trans (ih _ _) (by rw [List.length_drop]; omega)
              · exact Nat.le_refl _
          rw [List.length_drop] at this
          rw [List.length_append]; omega
    · rw [if_neg h]

theorem absorb_rest : ∀ (f : Nat) (s : List Nat) (r : List UInt8), r.length ≤ 64 * f → (absorb f s r).2.length < 64
  | 0, s, r, h => by rw [absorb]; show r.length < 64; omega
  | f + 1, s, r, h => by
    rw [absorb]
    split
    · exact absorb_rest f _ _ (by rw [List.length_drop]; omega)
    · show r.length < 64; omega
theorem absorb_len8 : ∀ (f : Nat) (s : List Nat) (r : List UInt8), s.length = 8 → (absorb f s r).1.length = 8
  | 0, s, r, h => h
  | f + 1, s, r, h => by
    rw [absorb]; split
    · exact absorb_len8 f _ _ (takenL_length _ _ h)
    · exact h

/-- what has come in: state, rest -/
def shaS (t : List UInt8) : List Nat × List UInt8 := absorb (t.length + 1) shaI t
theorem shaS_rest (t : List UInt8) : (shaS t).2.length < 64 := absorb_rest _ _ _ (by omega)
theorem shaS_len (t : List UInt8) : (shaS t).1.length = 8 := absorb_len8 _ _ _ rfl
theorem shaS_app (t u : List UInt8) : shaS (t ++ u) = absorb (u.length + 1) (shaS t).1 ((shaS t).2 ++ u) := by
  unfold shaS
  rw [absorb_app (t.length + 1) ((t ++ u).length + 1) shaI t u (by omega) (by rw [List.length_append]; omega)]
  have := shaS_rest t
  unfold shaS at this
  refine absorb_fuel _ _ _ _ ?_ ?_ <;> · rw [List.length_append]; try rw [List.length_append]
                                         omega

/-- the end: 128, noughts, the number of bits -/
def shaPad (r : List UInt8) : List UInt8 := r ++ [128] ++ List.replicate ((119 - r.length % 64) % 64) 0
def digest (s : List Nat) : List UInt8 := s.flatMap fun n => bigB n 4
def shaEnd (s : List Nat) (r : List UInt8) (many : Nat) : List UInt8 := digest (absorb 2 s (shaPad r ++ bigB (8 * many % 18446744073709551616) 8)).1
def shaL (t : List UInt8) : List UInt8 := shaEnd (shaS t).1 (shaS t).2 (t.length % 18446744073709551616)

theorem digest_length (s : List Nat) : (digest s).length = 4 * s.length := by
  unfold digest
  induction s with
  | nil => rfl
  | cons a s ih => rw [List.flatMap_cons, List.length_append, ih, bigB_length, List.length_cons]; omega
theorem shaL_length (t : List UInt8) : (shaL t).length = 32 := by
  unfold shaL shaEnd
  rw [digest_length, absorb_len8 _ _ _ (shaS_len t)]

end Go.Proofs.YtcmncdaojmkfgaaGreatDoor

namespace Go.Proofs.YtcmncdaojmkfgaaGreatDoor
set_option linter.unusedVariables false

def blLines : List (List Nat) := [
  [0, 1, 2, 3, 4, 5, 6, 7, 8, 9, 10, 11, 12, 13, 14, 15],
  [14, 10, 4, 8, 9, 15, 13, 6, 1, 12, 0, 2, 11, 7, 5, 3],
  [11, 8, 12, 0, 5, 2, 15, 13, 10, 14, 3, 6, 7, 1, 9, 4],
  [7, 9, 3, 1, 13, 12, 11, 14, 2, 6, 5, 10, 4, 0, 15, 8],
  [9, 0, 5, 7, 2, 4, 10, 15, 14, 1, 11, 12, 6, 8, 3, 13],
  [2, 12, 6, 10, 0, 11, 8, 3, 4, 13, 7, 5, 15, 14, 1, 9],
  [12, 5, 1, 15, 14, 13, 4, 10, 0, 7, 6, 3, 9, 2, 8, 11],
  [13, 11, 7, 14, 12, 1, 3, 9, 5, 0, 15, 4, 8, 6, 2, 10],
  [6, 15, 14, 9, 11, 3, 0, 8, 12, 2, 13, 7, 1, 4, 10, 5],
  [10, 2, 8, 4, 7, 6, 1, 5, 15, 11, 9, 14, 3, 12, 13, 0]]
def blPlaces : List (List Nat) := [[0, 4, 8, 12], [1, 5, 9, 13], [2, 6, 10, 14], [3, 7, 11, 15], [0, 5, 10, 15], [1, 6, 11, 12], [2, 7, 8, 13], [3, 4, 9, 14]]

/-- The four numbers behind one mix. -/
def blMix4 (a b c d x y : Nat) : Nat × Nat × Nat × Nat :=
  let a := sadd a (sadd b x)
  let d := rotl32 (d ^^^ a) 16
  let c := sadd c d
  let b := rotl32 (b ^^^ c) 20
  let a := sadd a (sadd b y)
  let d := rotl32 (d ^^^ a) 24
  let c := sadd c d
  let b := rotl32 (b ^^^ c) 25
  (a, b, c, d)
def blMix (i j k l x y : Nat) (v : List Nat) : List Nat :=
  let r := blMix4 (v.getD i 0) (v.getD j 0) (v.getD k 0) (v.getD l 0) x y
  (((v.set i r.1).set j r.2.1).set k r.2.2.1).set l r.2.2.2
def blAt (p : List Nat) (x y : Nat) (v : List Nat) : List Nat := blMix (p.getD 0 0) (p.getD 1 0) (p.getD 2 0) (p.getD 3 0) x y v
def blLine (m l v : List Nat) : Nat → List Nat
  | 0 => v
  | i + 1 => blAt (blPlaces.getD i []) (m.getD (l.getD (2 * i) 0) 0) (m.getD (l.getD (2 * i + 1) 0) 0) (blLine m l v i)
def blRounds (m v : List Nat) : Nat → List Nat
  | 0 => v
  | r + 1 => blLine m (blLines.getD r []) (blRounds m v r) 8
def blWords (b : List UInt8) (n : Nat) : List Nat := (List.range n).map fun i => leN ((b.drop (4 * i)).take 4)
def blStart (h : List Nat) (many : Nat) (last : Bool) : List Nat :=
  let v := h ++ shaI
  let v := v.set 12 (v.getD 12 0 ^^^ many % 4294967296)
  let v := v.set 13 (v.getD 13 0 ^^^ many / 4294967296)
  if last then v.set 14 (4294967295 ^^^ v.getD 14 0) else v
def blBlock (h : List Nat) (b : List UInt8) (many : Nat) (last : Bool) : List Nat :=
  let v := blRounds (blWords b 16) (blStart h many last) 10
  (List.range 8).map fun i => h.getD i 0 ^^^ (v.getD i 0 ^^^ v.getD (i + 8) 0)

theorem blBlock_length (h : List Nat) (b : List UInt8) (many : Nat) (last : Bool) : (blBlock h b many last).length = 8 := by simp [blBlock]

def blFirst (klen many : Nat) : List Nat := shaI.set 0 (shaI.getD 0 0 ^^^ ((16842752 ^^^ klen * 256) ^^^ many))
/-- all blocks but the last -/
def blLoop : Nat → List Nat → List UInt8 → Nat → List Nat × List UInt8 × Nat
  | 0, h, s, at' => (h, s, at')
  | f + 1, h, s, at' => if 64 < s.length then blLoop f (blBlock h (s.take 64) (at' + 64) false) (s.drop 64) (at' + 64) else (h, s, at')
def leD (s : List Nat) : List UInt8 := s.flatMap fun n => leB n 4
def blText (key s : List UInt8) : List UInt8 := if key = [] then s else key ++ List.replicate (64 - key.length) 0 ++ s
def blL (key s : List UInt8) (many : Nat) : List UInt8 :=
  let r := blLoop (blText key s).length (blFirst key.length many) (blText key s) 0
  (leD (blBlock r.1 (r.2.1 ++ List.replicate (64 - r.2.1.length) 0) (r.2.2 + r.2.1.length) true)).take many

theorem leD_length (s : List Nat) : (leD s).length = 4 * s.length := by
  unfold leD
  induction s with
  | nil => rfl
  | cons a s ih => rw [List.flatMap_cons, List.length_append, ih, leB_length, List.length_cons]; omega
theorem blL_length (key s : List UInt8) (many : Nat) (h : many ≤ 32) : (blL key s many).length = many := by
  unfold blL
  simp only
  rw [List.length_take, leD_length, blBlock_length]
  omega

theorem bl_vec1 : blL [] [97, 98, 99] 32 = [0x50, 0x8c, 0x5e, 0x8c, 0x32, 0x7c, 0x14, 0xe2, 0xe1, 0xa7, 0x2b, 0xa3, 0x4e, 0xeb, 0x45, 0x2f, 0x37, 0x45, 0x8b, 0x20, 0x9e, 0xd6, 0x3a, 0x29, 0x4d, 0x99, 0x9b, 0x4c, 0x86, 0x67, 0x59, 0x82] := by decide +kernel
theorem bl_vec2 : blL [] [] 32 = [0x69, 0x21, 0x7a, 0x30, 0x79, 0x90, 0x80, 0x94, 0xe1, 0x11, 0x21, 0xd0, 0x42, 0x35, 0x4a, 0x7c, 0x1f, 0x55, 0xb6, 0x48, 0x2c, 0xa1, 0xa5, 0x1e, 0x1b, 0x25, 0x0d, 0xfd, 0x1e, 0xd0, 0xee, 0xf9] := by decide +kernel

end Go.Proofs.YtcmncdaojmkfgaaGreatDoor

namespace Go.Proofs.YtcmncdaojmkfgaaGreatDoor
open Go.RowKit
set_option linter.unusedVariables false

set_option maxHeartbeats 400000 in
theorem wire_big (w : World) (l : List UInt8) (hl : l.length ≤ 8) :
    Calls Tryz.prog 47 #[S l] w fun e w' => e = .returned (.int .u64 (bigN l)) ∧ w = w' := by
  unfold S
  go_enter Tryz.func47, Tryz.ntmps47
  go_wp2
  go_loop [3, 8] (fun vn vi => ∃ j : Nat, j ≤ l.length ∧ vi = .int .i64 j ∧ vn = .int .u64 (bigN (l.take j))) (fun _ vi => l.length - (intOf vi).toNat)
  case atStart => exact ⟨0, by omega, rfl, rfl⟩
  case round =>
    obtain ⟨j, hj, rfl, rfl⟩ := hrel
    by_cases hlt : j < l.length
    · have hb := bigN_take_lt l j hlt hl
      go_wp2
      go_round
      case rel =>
        have e : bits .or .u64 ((bigN (l.take j) : Int) * 256) (IntKind.u64.wrap ((ByteArray.mk l.toArray)[j]'(by simpa [ByteArray.size] using hlt)).toNat) = ((bigN (l.take (j + 1)) : Nat) : Int) := by
          rw [List.take_succ_eq_append_getElem hlt, bigN_snoc]
          exact or_byte _ _ hb
        exact ⟨j + 1, by omega, by go_num, by rw [← e]⟩
      case measure => simp [intOf]; omega
    · obtain rfl : j = l.length := by omega
      go_wp2
      go_ret
      exact ⟨ret_int (by first | rfl | rw [List.take_length]), rfl⟩

theorem wire_big_any (w : World) (s : ByteArray) (hs : s.size ≤ 8) :
    Calls Tryz.prog 47 #[.string s] w fun e w' => e = .returned (.int .u64 (bigN s.data.toList)) ∧ w = w' := by
  have h := wire_big w s.data.toList (by rw [Array.length_toList]; exact hs)
  exact h

end Go.Proofs.YtcmncdaojmkfgaaGreatDoor

namespace Go.Proofs.YtcmncdaojmkfgaaGreatDoor
open Go.RowKit
set_option linter.unusedVariables false

theorem div_lt32 {x : Nat} (hx : x < 4294967296) (c : Nat) : x / 2 ^ c < 4294967296 := Nat.lt_of_le_of_lt (Nat.div_le_self _ _) hx
theorem mixS_lt {x : Nat} (hx : x < 4294967296) (a b c : Nat) : mixS x a b c < 4294967296 := xor32_lt (xor32_lt (rotl32_lt hx) (rotl32_lt hx)) (div_lt32 hx c)
theorem mixR_lt {x : Nat} (hx : x < 4294967296) (a b c : Nat) : mixR x a b c < 4294967296 := xor32_lt (xor32_lt (rotl32_lt hx) (rotl32_lt hx)) (rotl32_lt hx)

set_option maxHeartbeats 1000000 in
theorem code_mixed_down (w : World) (x : Nat) (hx : x < 4294967296) (A B : Int) (sa sb c : Nat) (hA : bits .and .u64 (IntKind.u64.wrap (-A)) 31 = (sa : Int)) (hB : bits .and .u64 (IntKind.u64.wrap (-B)) 31 = (sb : Int))
    (a1 : 0 < sa) (a2 : sa < 32) (b1 : 0 < sb) (b2 : sb < 32) (c1 : 0 < c) (c2 : c < 32) (hC : bits .and .u64 (IntKind.u64.wrap (c : Int)) 31 = (c : Int)) (A1 : -64 ≤ A) (A2 : A ≤ 64) (B1 : -64 ≤ B) (B2 : B ≤ 64) :
    Calls Tryz.prog 116 #[.int .u32 (x : Int), .int .i64 A, .int .i64 B, .int .i64 (c : Int)] w fun e w' => e = .returned (.int .u32 (((rotl32 x sa ^^^ rotl32 x sb) ^^^ x / 2 ^ c : Nat) : Int)) ∧ w = w' := by
  have RC : ∀ W : World, Calls Tryz.prog 115 #[.int .u32 (x : Int), .int .i64 (c : Int)] W fun e w' => e = .returned (.int .u32 (rotl32 x c : Nat)) ∧ W = w' := fun W => rot32_any x c _ W hx hC c1 c2
  have RA : ∀ W : World, Calls Tryz.prog 115 #[.int .u32 (x : Int), .int .i64 (-A)] W fun e w' => e = .returned (.int .u32 (rotl32 x sa : Nat)) ∧ W = w' := fun W => rot32_any x sa _ W hx hA a1 a2
  have RB : ∀ W : World, Calls Tryz.prog 115 #[.int .u32 (x : Int), .int .i64 (-B)] W fun e w' => e = .returned (.int .u32 (rotl32 x sb : Nat)) ∧ W = w' := fun W => rot32_any x sb _ W hx hB b1 b2
  have l1 := rotl32_lt (s := sa) hx
  have l2 := rotl32_lt (s := sb) hx
  have l3 := div_lt32 hx c
  have hpos : decide ((0 : Int) < (c : Int)) = true := by simp; omega
  have hc0 : (0 : Int) ≤ (c : Int) := by omega
  have hc9 : (c : Int) < 32 := by omega
  clear hA hB hC
  go_enter Tryz.func116, Tryz.ntmps116
  go_wp2_with fail
  (with_reducible refine (RC _).mono ?_)
  rintro e w1 ⟨rfl, rfl⟩
  go_wp2_with fail
  (with_reducible refine (RA _).mono ?_)
  rintro e w1 ⟨rfl, rfl⟩
  go_wp2_with fail
  (with_reducible refine (RB _).mono ?_)
  rintro e w1 ⟨rfl, rfl⟩
  go_wp2_with fail
  go_ret
  refine ⟨ret_int ?_, rfl⟩
  rw [u32_xor_nat _ _ l1 l2, show ((x : Int) / 2 ^ c) = ((x / 2 ^ c : Nat) : Int) from by simp, u32_xor_nat _ _ (xor32_lt l1 l2) l3]

set_option maxHeartbeats 1000000 in
theorem code_mixed_turn (w : World) (x : Nat) (hx : x < 4294967296) (A B C : Int) (sa sb sc : Nat) (hA : bits .and .u64 (IntKind.u64.wrap (-A)) 31 = (sa : Int)) (hB : bits .and .u64 (IntKind.u64.wrap (-B)) 31 = (sb : Int)) (hC : bits .and .u64 (IntKind.u64.wrap C) 31 = (sc : Int))
    (a1 : 0 < sa) (a2 : sa < 32) (b1 : 0 < sb) (b2 : sb < 32) (c1 : 0 < sc) (c2 : sc < 32) (A1 : -64 ≤ A) (A2 : A ≤ 64) (B1 : -64 ≤ B) (B2 : B ≤ 64) (C1 : C < 0) :
    Calls Tryz.prog 116 #[.int .u32 (x : Int), .int .i64 A, .int .i64 B, .int .i64 C] w fun e w' => e = .returned (.int .u32 (((rotl32 x sa ^^^ rotl32 x sb) ^^^ rotl32 x sc : Nat) : Int)) ∧ w = w' := by
  have RC : ∀ W : World, Calls Tryz.prog 115 #[.int .u32 (x : Int), .int .i64 C] W fun e w' => e = .returned (.int .u32 (rotl32 x sc : Nat)) ∧ W = w' := fun W => rot32_any x sc _ W hx hC c1 c2
  have RA : ∀ W : World, Calls Tryz.prog 115 #[.int .u32 (x : Int), .int .i64 (-A)] W fun e w' => e = .returned (.int .u32 (rotl32 x sa : Nat)) ∧ W = w' := fun W => rot32_any x sa _ W hx hA a1 a2
  have RB : ∀ W : World, Calls Tryz.prog 115 #[.int .u32 (x : Int), .int .i64 (-B)] W fun e w' => e = .returned (.int .u32 (rotl32 x sb : Nat)) ∧ W = w' := fun W => rot32_any x sb _ W hx hB b1 b2
  have l1 := rotl32_lt (s := sa) hx
  have l2 := rotl32_lt (s := sb) hx
  have l3 := rotl32_lt (s := sc) hx
  have hpos : decide ((0 : Int) < C) = false := by simp; omega
  clear hA hB hC
  go_enter Tryz.func116, Tryz.ntmps116
  go_wp2_with fail
  (with_reducible refine (RC _).mono ?_)
  rintro e w1 ⟨rfl, rfl⟩
  go_wp2_with fail
  (with_reducible refine (RA _).mono ?_)
  rintro e w1 ⟨rfl, rfl⟩
  go_wp2_with fail
  (with_reducible refine (RB _).mono ?_)
  rintro e w1 ⟨rfl, rfl⟩
  go_wp2_with fail
  go_ret
  refine ⟨ret_int ?_, rfl⟩
  rw [u32_xor_nat _ _ l1 l2, u32_xor_nat _ _ (xor32_lt l1 l2) l3]

def Said32 (n : Nat) (w : World) (e : Ending) (w' : World) : Prop := e = .returned (.int .u32 (n : Int)) ∧ w = w'
theorem mix_s0 (w : World) (x : Nat) (hx : x < 4294967296) : Calls Tryz.prog 116 #[.int .u32 (x : Int), .int .i64 7, .int .i64 18, .int .i64 3] w (Said32 (mixS x 7 18 3) w) :=
  code_mixed_down w x hx 7 18 25 14 3 (by kernel_rfl) (by kernel_rfl) (by omega) (by omega) (by omega) (by omega) (by omega) (by omega) (by kernel_rfl) (by omega) (by omega) (by omega) (by omega)
theorem mix_s1 (w : World) (x : Nat) (hx : x < 4294967296) : Calls Tryz.prog 116 #[.int .u32 (x : Int), .int .i64 17, .int .i64 19, .int .i64 10] w (Said32 (mixS x 17 19 10) w) :=
  code_mixed_down w x hx 17 19 15 13 10 (by kernel_rfl) (by kernel_rfl) (by omega) (by omega) (by omega) (by omega) (by omega) (by omega) (by kernel_rfl) (by omega) (by omega) (by omega) (by omega)
theorem mix_r1 (w : World) (x : Nat) (hx : x < 4294967296) : Calls Tryz.prog 116 #[.int .u32 (x : Int), .int .i64 6, .int .i64 11, .int .i64 (-25)] w (Said32 (mixR x 6 11 25) w) :=
  code_mixed_turn w x hx 6 11 (-25) 26 21 7 (by kernel_rfl) (by kernel_rfl) (by kernel_rfl) (by omega) (by omega) (by omega) (by omega) (by omega) (by omega) (by omega) (by omega) (by omega) (by omega) (by omega)
theorem mix_r2 (w : World) (x : Nat) (hx : x < 4294967296) : Calls Tryz.prog 116 #[.int .u32 (x : Int), .int .i64 2, .int .i64 13, .int .i64 (-22)] w (Said32 (mixR x 2 13 22) w) :=
  code_mixed_turn w x hx 2 13 (-22) 30 19 10 (by kernel_rfl) (by kernel_rfl) (by kernel_rfl) (by omega) (by omega) (by omega) (by omega) (by omega) (by omega) (by omega) (by omega) (by omega) (by omega) (by omega)

end Go.Proofs.YtcmncdaojmkfgaaGreatDoor

namespace Go.Proofs.YtcmncdaojmkfgaaGreatDoor
open Go.RowKit
set_option linter.unusedVariables false

def c32 (n : Nat) : Value := .int .u32 (n : Int)
def A32 (l : List Nat) : Value := .agg (l.map c32).toArray
def HB (w : World) (B : Nat) (t : TypeId) (l : List Nat) : Prop := Blk w B t (l.map c32)
theorem HB.cell {w : World} {B : Nat} {t : TypeId} {l : List Nat} (h : HB w B t l) (i : Nat) (hi : i < l.length) : w.cell? ⟨B, i, none⟩ = some (.int .u32 (l[i] : Nat)) := by
  rw [Blk.cell h, List.getElem?_map, List.getElem?_eq_getElem hi]; rfl
theorem HB.set {w : World} {B : Nat} {t : TypeId} {l : List Nat} (h : HB w B t l) (i n : Nat) : HB (w.setCell ⟨B, i, none⟩ (.int .u32 (n : Int))) B t (l.set i n) := by
  have := Blk.set h i (.int .u32 (n : Int))
  unfold HB
  rw [List.map_set]
  exact this
def Small32 (l : List Nat) : Prop := ∀ x ∈ l, x < 4294967296

theorem info_u32 : (Tryz.prog.info? 24).map (·.size) = some 1 := by kernel_rfl
def kCells : List Value := [.int .u32 1116352408, .int .u32 1899447441, .int .u32 3049323471, .int .u32 3921009573, .int .u32 961987163, .int .u32 1508970993, .int .u32 2453635748, .int .u32 2870763221, .int .u32 3624381080, .int .u32 310598401, .int .u32 607225278, .int .u32 1426881987, .int .u32 1925078388, .int .u32 2162078206, .int .u32 2614888103, .int .u32 3248222580, .int .u32 3835390401, .int .u32 4022224774, .int .u32 264347078, .int .u32 604807628, .int .u32 770255983, .int .u32 1249150122, .int .u32 1555081692, .int .u32 1996064986, .int .u32 2554220882, .int .u32 2821834349, .int .u32 2952996808, .int .u32 3210313671, .int .u32 3336571891, .int .u32 3584528711, .int .u32 113926993, .int .u32 338241895, .int .u32 666307205, .int .u32 773529912, .int .u32 1294757372, .int .u32 1396182291, .int .u32 1695183700, .int .u32 1986661051, .int .u32 2177026350, .int .u32 2456956037, .int .u32 2730485921, .int .u32 2820302411, .int .u32 3259730800, .int .u32 3345764771, .int .u32 3516065817, .int .u32 3600352804, .int .u32 4094571909, .int .u32 275423344, .int .u32 430227734, .int .u32 506948616, .int .u32 659060556, .int .u32 883997877, .int .u32 958139571, .int .u32 1322822218, .int .u32 1537002063, .int .u32 1747873779, .int .u32 1955562222, .int .u32 2024104815, .int .u32 2227730452, .int .u32 2361852424, .int .u32 2428436474, .int .u32 2756734187, .int .u32 3204031479, .int .u32 3329325298]
theorem kCells_eq : shaK.map c32 = kCells := by simp only [shaK, c32, kCells, List.map_cons, List.map_nil, Int.cast_ofNat_Int]
theorem kCells_one : kCells.toArray.all (·.oneCell') = true := by kernel_rfl
theorem infoK : (Tryz.prog.info? 196).map (·.size) = some kCells.length := by kernel_rfl
theorem infoK2 : (Tryz.prog.info? 196).map (·.size) = some kCells.toArray.size := by kernel_rfl
def zCells : List Value := List.replicate 64 (.int .u32 0)
set_option maxRecDepth 20000 in
set_option maxHeartbeats 2000000 in
theorem code_constants (w : World) : Calls Tryz.prog 117 #[] w (Grown (A32 shaK) w) := by
  obtain ⟨x, hx⟩ : ∃ x, x = w.alloc (.cells #[.int .u32 0, .int .u32 0, .int .u32 0, .int .u32 0, .int .u32 0, .int .u32 0, .int .u32 0, .int .u32 0, .int .u32 0, .int .u32 0, .int .u32 0, .int .u32 0, .int .u32 0, .int .u32 0, .int .u32 0, .int .u32 0, .int .u32 0, .int .u32 0, .int .u32 0, .int .u32 0, .int .u32 0, .int .u32 0, .int .u32 0, .int .u32 0, .int .u32 0, .int .u32 0, .int .u32 0, .int .u32 0, .int .u32 0, .int .u32 0, .int .u32 0, .int .u32 0, .int .u32 0, .int .u32 0, .int .u32 0, .int .u32 0, .int .u32 0, .int .u32 0, .int .u32 0, .int .u32 0, .int .u32 0, .int .u32 0, .int .u32 0, .int .u32 0, .int .u32 0, .int .u32 0, .int .u32 0, .int .u32 0, .int .u32 0, .int .u32 0, .int .u32 0, .int .u32 0, .int .u32 0, .int .u32 0, .int .u32 0, .int .u32 0, .int .u32 0, .int .u32 0, .int .u32 0, .int .u32 0, .int .u32 0, .int .u32 0, .int .u32 0, .int .u32 0] 196) := ⟨_, rfl⟩
  have hb : Blk x w.heap.size 196 zCells := by rw [hx]; exact obj_new _ _
  have hth : x.there w.heap.size 0 kCells.toArray.size := hb.there _ (by kernel_rfl)
  have hW := hb.store kCells (by kernel_rfl)
  have he : A32 shaK = .agg kCells.toArray := by unfold A32; rw [kCells_eq]
  have hgW : w.grownBy (x.setCells w.heap.size 0 kCells.toArray.toList) none := grow_setCells_new (by rw [hx]; exact grow_alloc (grow_refl w none) _) _ (Nat.le_refl _) _ _
  rw [he]
  have hone := kCells_one
  have hi1 := infoK
  have hi2 := infoK2
  obtain ⟨L, hL⟩ : ∃ L, L = kCells := ⟨_, rfl⟩
  rw [← hL] at hth hW hgW hone hi1 hi2 ⊢
  have HL := Lib.hid hL
  have HW := Lib.hid hW
  have HG := Lib.hid hgW
  have HX := Lib.hid hx
  have HT := Lib.hid hth
  have HO := Lib.hid hone
  have HI1 := Lib.hid hi1
  have HI2 := Lib.hid hi2
  clear hb he hW hgW hx hth hL hone hi1 hi2
  go_enter Tryz.func117, Tryz.ntmps117
  go_upto_region 1 with (fail)
  rw [← HX.out]
  refine wp_region_lit ?_
  refine Go.Great.wpList_readTo rfl _ rfl (.agg L.toArray) ?_ ?_
  · rw [HL.out]
    kernel_rfl
  refine wpList_store_mid rfl 196 _ _ rfl w.heap.size 0 L.toArray rfl rfl HT.out HI2.out HO.out ?_
  refine wpList_nil ?_
  go_wp2_with fail
  refine bodyPost_ret (v := .agg L.toArray) (results_row Tryz.results117 _ _ w.heap.size rfl L _ HW.out Tryz.underlying196 rfl HI1.out) rfl ?_
  exact ⟨rfl, HG.out⟩

end Go.Proofs.YtcmncdaojmkfgaaGreatDoor
