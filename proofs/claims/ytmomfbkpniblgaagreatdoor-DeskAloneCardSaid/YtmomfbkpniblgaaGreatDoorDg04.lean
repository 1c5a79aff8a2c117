/-
  Several texts of this claim in one: AnyInv, Row, IndexRow, Word, Num3, Quarter, GaloisPlain, GhashPlain, Galois, Rest, RestNat.
-/
import Derived.Test.YtmomfbkpniblgaaGreatDoorBase
import Derived.Orders
import Derived.Deep.MidRow
import Derived.ChangeKeysEq
import Derived.Laws.BitsAllLaws
namespace Go.Proofs.YtmomfbkpniblgaaGreatDoor
open Go.RowKit
set_option linter.unusedVariables false

/-- Each operation waits for earlier ones alone. -/
def earlierB (md : Region.Mode) (ops : Array Oper) : Bool :=
  (List.range ops.size).all fun i => ((ops[i]?).map fun o => o.after.all fun e => !Region.binds md e || decide (e.on < i)).getD true

theorem earlierB_spec {md : Region.Mode} {ops : Array Oper} (h : earlierB md ops = true) {i : Nat} {o : Oper} (ho : ops[i]? = some o) (e : Edge) (he : e ∈ o.after) (hb : Region.binds md e = true) : e.on < i := by
  unfold earlierB at h
  have hi : i < ops.size := (Array.getElem?_eq_some_iff.1 ho).1
  have h1 := List.all_eq_true.1 h i (List.mem_range.2 hi)
  rw [ho] at h1
  simp only [Option.map_some, Option.getD_some] at h1
  have h2 := Array.all_eq_true_iff_forall_mem.1 h1 e he
  simpa [hb] using h2

theorem all_listed {md : Region.Mode} {ops : Array Oper} {listed : Array Bool} (he : earlierB md ops = true) (hs : listed.size = ops.size) (hr : Region.ready md ops listed = []) : ∀ i, i < ops.size → listed.getD i false = true := by
  intro i
  induction i using Nat.strongRecOn with
  | _ i ih =>
    intro hi
    rcases hb : listed.getD i false with _ | _
    · exfalso
      have hm : i ∈ Region.ready md ops listed := by
        rw [mem_ready]
        refine ⟨?_, ops[i], by simp [hi], fun e h1 h2 => ?_⟩
        · have : i < listed.size := by omega
          simp [this] at hb ⊢
          exact hb
        · have := earlierB_spec he (i := i) (o := ops[i]) (by simp [hi]) e h1 h2
          exact ih e.on this (by omega)
      rw [hr] at hm
      cases hm
    · rfl

theorem getD_flip {l : Array Bool} {i : Nat} (hi : i < l.size) : l.getD i true = l.getD i false := by simp [hi]

theorem wpAny_inv {P : Program} {ops : Array Oper} {Q : Exit → Act → World → Prop} {md : Region.Mode} (he : earlierB md ops = true) (I : (Nat → Bool) → Act → World → Prop)
    (step : ∀ (L : Nat → Bool) (i : Nat) (o : Oper) (a : Act) (w : World), ops[i]? = some o → L i = false → (∀ e ∈ o.after, Region.binds md e = true → L e.on = true) → I L a w → wpOp P ops Q i (I fun j => j == i || L j) a w)
    (fin : ∀ (L : Nat → Bool) (a : Act) (w : World), (∀ i, i < ops.size → L i = true) → I L a w → Q .normal a w) :
    ∀ (fuel : Nat) (listed : Array Bool) (a : Act) (w : World), listed.size = ops.size → listed.toList.count false ≤ fuel → I (fun j => listed.getD j false) a w → wpAny P md ops Q fuel listed a w := by
  intro fuel
  induction fuel with
  | zero =>
    intro listed a w hs hc hI
    have hr : Region.ready md ops listed = [] := by
      rcases hr : Region.ready md ops listed with _ | ⟨i, r⟩
      · rfl
      · exfalso
        have hm : i ∈ Region.ready md ops listed := by rw [hr]; simp
        rw [mem_ready] at hm
        obtain ⟨h1, o, ho, _⟩ := hm
        have hi : i < listed.size := by rw [hs]; exact (Array.getElem?_eq_some_iff.1 ho).1
        have : false ∈ listed.toList := by
          have e : listed[i] = false := by simpa [hi] using h1
          rw [← e]
          simp
        have := List.count_pos_iff.2 this
        omega
    exact ⟨hr, fin _ a w (all_listed he hs hr) hI⟩
  | succ fuel ih =>
    intro listed a w hs hc hI
    refine ⟨fun hr => fin _ a w (all_listed he hs hr) hI, fun i hm => ?_⟩
    rw [mem_ready] at hm
    obtain ⟨h1, o, ho, hd⟩ := hm
    have hi : i < listed.size := by rw [hs]; exact (Array.getElem?_eq_some_iff.1 ho).1
    have hL : listed.getD i false = false := by rw [← getD_flip hi]; exact h1
    refine wpOp_mono (fun a w hI' => ?_) (step (fun j => listed.getD j false) i o a w ho hL hd hI)
    refine ih _ a w (by simpa using hs) ?_ ?_
    · have e : listed[i] = false := by simpa [hi] using h1
      have hl : i < listed.toList.length := by simpa using hi
      have hp : 0 < listed.toList.count false := List.count_pos_iff.2 (by rw [← e]; simp)
      rw [Array.toList_setIfInBounds, List.count_set hl]
      have e2 : (listed.toList[i] == false) = true := by simp [e]
      rw [if_pos e2, if_neg (by decide)]
      omega
    · have hfun : (fun j => (listed.setIfInBounds i true).getD j false) = (fun j => j == i || listed.getD j false) := by
        funext j
        by_cases hj : j = i
        · subst hj
          simp [hi]
        · have : ¬ i = j := fun h => hj h.symm
          have hbq : (j == i) = false := by simpa using hj
          rw [hbq, Bool.false_or]
          simp only [Array.getD, Array.size_setIfInBounds]
          by_cases hj2 : j < listed.size
          · simp only [hj2, dite_true]
            exact Array.getElem_setIfInBounds_ne hj2 this
          · simp only [hj2, dite_false]
      rw [hfun]
      exact hI'

theorem wp_region_inv {P : Program} {ops : Array Oper} {Q : Exit → Act → World → Prop} {id : Nat} {a : Act} {w : World} (hm : P.follows .mixedOrders = true) (he : earlierB .any ops = true) (I : (Nat → Bool) → Act → World → Prop)
    (step : ∀ (L : Nat → Bool) (i : Nat) (o : Oper) (a : Act) (w : World), ops[i]? = some o → L i = false → (∀ e ∈ o.after, Region.binds .any e = true → L e.on = true) → I L a w → wpOp P ops Q i (I fun j => j == i || L j) a w)
    (fin : ∀ (L : Nat → Bool) (a : Act) (w : World), (∀ i, i < ops.size → L i = true) → I L a w → Q .normal a w)
    (h0 : I (fun _ => false) a w.drew) : (Code.region id ops true).wp P Q a w := by
  refine wp_region_any hm ?_
  refine wpAny_inv he I step fin _ _ _ _ (by simp) (by simp) ?_
  have e : (fun j => (Array.replicate ops.size false).getD j false) = (fun _ => false) := by
    funext j
    simp [Array.getD]
  rw [e]
  exact h0

end Go.Proofs.YtmomfbkpniblgaaGreatDoor

namespace Go.Proofs.YtmomfbkpniblgaaGreatDoor
open Go.RowKit
set_option linter.unusedVariables false

def Blk (w : World) (B : Nat) (t : TypeId) (vs : List Value) : Prop := w.heap[B]? = some (.cells vs.toArray t (0, 0))

theorem Blk.lt {w : World} {B : Nat} {t : TypeId} {vs : List Value} (h : Blk w B t vs) : B < w.heap.size := lt_of_obj h

theorem Blk.cell {w : World} {B : Nat} {t : TypeId} {vs : List Value} (h : Blk w B t vs) (i : Nat) : w.cell? ⟨B, i, none⟩ = vs[i]? := by
  rw [obj_cell h]
  simp

theorem Blk.frozen {w : World} {B : Nat} {t : TypeId} {vs : List Value} (h : Blk w B t vs) (i : Nat) : w.frozen? ⟨B, i, none⟩ = false := obj_frozen h i

theorem Blk.set {w : World} {B : Nat} {t : TypeId} {vs : List Value} (h : Blk w B t vs) (i : Nat) (v : Value) : Blk (w.setCell ⟨B, i, none⟩ v) B t (vs.set i v) := by
  unfold Blk
  rw [obj_setCell h]
  simp

theorem Blk.kept {w w' : World} {B : Nat} {t : TypeId} {vs : List Value} {r : Option Nat} (h : Blk w B t vs) (g : w.grownBy w' r) (hr : some B ≠ r) : Blk w' B t vs := grow_obj g h hr

theorem Blk.drew {w : World} {B : Nat} {t : TypeId} {vs : List Value} (h : Blk w B t vs) : Blk w.drew B t vs := h

theorem Blk.new (w : World) (t : TypeId) (vs : List Value) : Blk (w.alloc (.cells vs.toArray t)) w.heap.size t vs := obj_new w _

theorem Blk.range {w : World} {B : Nat} {t : TypeId} {vs : List Value} (h : Blk w B t vs) : w.rangeAt B 0 vs := by
  intro j v hv
  rw [Nat.zero_add, h.cell]
  exact hv

theorem Blk.there {w : World} {B : Nat} {t : TypeId} {vs : List Value} (h : Blk w B t vs) (n : Nat) (hn : vs.length = n) : w.there B 0 n := by
  subst hn
  intro j hj
  rw [Nat.zero_add, h.cell, List.getElem?_eq_getElem hj]
  exact ⟨rfl, h.frozen j⟩

theorem setCells_obj (b : Nat) : ∀ (vs : List Value) (o : Nat) (w : World) (c : List Value) (t : TypeId), Blk w b t c → Blk (w.setCells b o vs) b t ((c.take o ++ vs ++ c.drop (o + vs.length)).take c.length) ∨ c.length < o + vs.length
  | [], o, w, c, t, h => by
    left
    simp only [World.setCells, List.append_nil, List.length_nil, Nat.add_zero, List.take_append_drop, List.take_length]
    exact h
  | v :: r, o, w, c, t, h => by
    rcases setCells_obj b r (o + 1) (w.setCell ⟨b, o, none⟩ v) (c.set o v) t (h.set o v) with h1 | h1
    · by_cases q : o < c.length
      · left
        simp only [World.setCells]
        have e : ((c.set o v).take (o + 1) ++ r ++ (c.set o v).drop (o + 1 + r.length)).take (c.set o v).length = (c.take o ++ (v :: r) ++ c.drop (o + (v :: r).length)).take c.length := by
          rw [List.length_set, List.take_succ_eq_append_getElem (by simpa using q), List.getElem_set_self, List.take_set_of_le (Nat.le_refl _), List.drop_set_of_lt (by omega)]
          simp only [List.length_cons, List.append_assoc, List.cons_append, List.nil_append]
          rw [show o + 1 + r.length = o + (r.length + 1) from by omega]
        rw [← e]
        exact h1
      · right
        simp only [List.length_cons]
        omega
    · right
      simp only [List.length_set, List.length_cons] at h1 ⊢
      omega

/-- The whole array is stored. -/
theorem Blk.store {w : World} {B : Nat} {t : TypeId} {c : List Value} (h : Blk w B t c) (vs : List Value) (hn : vs.length = c.length) : Blk (w.setCells B 0 vs) B t vs := by
  rcases setCells_obj B vs 0 w c t h with h1 | h1
  · rw [List.take_zero, List.nil_append, Nat.zero_add, hn, List.drop_length, List.append_nil, List.take_of_length_le (by omega)] at h1
    exact h1
  · omega

theorem grow_setCells (k : Nat) : ∀ (vs : List Value) (o : Nat) (a b : World), a.grownBy b (some k) → a.grownBy (b.setCells k o vs) (some k)
  | [], _, _, _, h => h
  | v :: r, o, a, b, h => grow_setCells k r (o + 1) a (b.setCell ⟨k, o, none⟩ v) (grow_setCell h o v)

theorem grow_setCells_new {a b : World} {r : Option Nat} (h : a.grownBy b r) (k : Nat) (hk : a.heap.size ≤ k) (o : Nat) (vs : List Value) : a.grownBy (b.setCells k o vs) r :=
  grow_trans_new h (grow_setCells k vs o b b (grow_refl _ _)) hk

theorem setCells_new (w : World) (t : TypeId) : ∀ (vs pre c : List Value), vs.length = c.length → (w.alloc (.cells (pre ++ c).toArray t)).setCells w.heap.size pre.length vs = w.alloc (.cells (pre ++ vs).toArray t)
  | [], pre, c, h => by
    obtain rfl : c = [] := List.eq_nil_of_length_eq_zero h.symm
    rfl
  | v :: vs, pre, d :: c, h => by
    rw [World.setCells, World.setCell_alloc_at _ _ _ _ _ rfl]
    have e : (pre ++ d :: c).toArray.setIfInBounds pre.length v = ((pre ++ [v]) ++ c).toArray := by simp
    rw [e]
    have := setCells_new w t vs (pre ++ [v]) c (by simpa using h)
    rw [List.length_append, List.length_singleton] at this
    rw [this, List.append_assoc]
    rfl
  | _ :: _, _, [], h => by simp at h

/-- An array stored into the block that the call has just made. -/
theorem run_store_new {P : Program} (w : World) (c : Array Value) (t : TypeId) (vs : List Value) (hn : vs.length = c.size) (h1 : ∀ v ∈ vs, v.oneCell' = true) :
    (storeCells ⟨w.heap.size, 0, none⟩ vs).run P (w.alloc (.cells c t)) = .ok () (w.alloc (.cells vs.toArray t)) := by
  have hb : Blk (w.alloc (.cells c t)) w.heap.size t c.toList := obj_new w _
  have ht := hb.there c.size (by simp)
  have := run_storeCells_cells (P := P) w.heap.size 0 vs 0 (w.alloc (.cells c t)) (fun j hj => (ht j (by omega)).1) (fun j hj => (ht j (by omega)).2) h1
  rw [this]
  have e := setCells_new w t vs [] c.toList (by rw [hn, Array.length_toList])
  simp only [List.nil_append, List.length_nil] at e
  rw [show (c.toList.toArray : Array Value) = c from by simp] at e
  rw [show (0 + 0 : Nat) = 0 from rfl, e]

/-- One result that lies in a variable's cells: an array. -/
theorem results_row {P : Program} {fn : Func} {t : Tmp} {ty : TypeId} (h : fn.results = #[.cell t ty]) (tmps : Array Value) (w : World) (B : Nat) (hp : tmps.getD t undef = .pointer (some ⟨B, 0, none⟩)) (vs : List Value) (d : TypeDesc)
    (hb : Blk w B ty vs) (hu : P.underlying ty = some d) (hd : d.isRow = true) (hi : (P.info? ty).map (·.size) = some vs.length) : (results fn tmps).run P w = .ok (.agg vs.toArray) w := by
  have hl := run_loadVar_mid w B 0 ty vs d hb.range hu hd hi
  rw [Array.getD_eq_getD_getElem?] at hp
  simp [results, h, hp, hl, asAddr]

end Go.Proofs.YtmomfbkpniblgaaGreatDoor

namespace Go.Proofs.YtmomfbkpniblgaaGreatDoor
open Go.RowKit
set_option linter.unusedVariables false

theorem size_of_info {P : Program} {e : TypeId} {n : Nat} (h : (P.info? e).map (·.size) = some n) (w : World) : (Go.sizeOf e).run P w = .ok n w := by
  cases hq : P.info? e with
  | none => rw [hq] at h; simp at h
  | some i =>
    rw [hq] at h
    have hi : i.size = n := by simpa using h
    simp [sizeOf, typeInfo, hq, hi]

theorem run_index_one {P : Program} (w : World) (t e : TypeId) (n : Nat) (cs : Array Value) (i : Nat) (v : Value) (h : P.underlying t = some (.array n e)) (hz : (P.info? e).map (·.size) = some 1) (he : P.plainKey e = true) (hi : i < n) (hv : cs[i]? = some v) :
    (Instr.index t (.agg cs) (.int .i64 (i : Int))).run P w = .ok v w := by
  have h1 : (0 : Int) ≤ (i : Int) ∧ (i : Int) < (n : Int) := by omega
  have h2 := size_of_info hz w
  have h3 := run_part_plain (P := P) (w := w) he hv
  simp only [part, Sem.run_bind] at h3
  simp [Instr.index, run_underlying h, asIntOf, hi, h2, part, go_sem]
  simpa [go_sem] using h3

end Go.Proofs.YtmomfbkpniblgaaGreatDoor

namespace Go.Proofs.YtmomfbkpniblgaaGreatDoor
open Go.RowKit
set_option linter.unusedVariables false

def rotl32 (x s : Nat) : Nat := x * 2 ^ s % 4294967296 ||| x / 2 ^ (32 - s)

theorem rotl32_lt {x s : Nat} (hx : x < 4294967296) : rotl32 x s < 4294967296 :=
  Nat.or_lt_two_pow (n := 32) (Nat.mod_lt _ (by omega)) (Nat.lt_of_le_of_lt (Nat.div_le_self _ _) hx)

theorem xor32_lt {a b : Nat} (ha : a < 4294967296) (hb : b < 4294967296) : a ^^^ b < 4294967296 := Nat.xor_lt_two_pow (n := 32) ha hb

theorem rot32_val {x s : Nat} (hx : x < 4294967296) (X : Int) (hX : X = ((x * 2 ^ s % 4294967296 : Nat) : Int)) (Y : Int) (hY : Y = ((x / 2 ^ (32 - s) : Nat) : Int)) :
    bits .or .u32 X Y = ((rotl32 x s : Nat) : Int) := by
  subst hX hY
  rw [u32_or_nat _ _ (Nat.mod_lt _ (by omega)) (Nat.lt_of_le_of_lt (Nat.div_le_self _ _) hx)]
  rfl

theorem or_split (x s : Nat) (hx : x < 4294967296) (hs : s ≤ 32) : rotl32 x s = x % 2 ^ (32 - s) * 2 ^ s + x / 2 ^ (32 - s) := by
  unfold rotl32
  have e : (4294967296 : Nat) = 2 ^ (32 - s) * 2 ^ s := by rw [← Nat.pow_add, show 32 - s + s = 32 from by omega]
  have h : x / 2 ^ (32 - s) < 2 ^ s := by
    rw [Nat.div_lt_iff_lt_mul (Nat.two_pow_pos _), Nat.mul_comm, ← e]
    exact hx
  have e1 : x * 2 ^ s % 4294967296 = x % 2 ^ (32 - s) * 2 ^ s := by rw [e, Nat.mul_mod_mul_right]
  rw [e1, Nat.mul_comm, Nat.two_pow_add_eq_or_of_lt h]

theorem rotl32_back (x s : Nat) (hx : x < 4294967296) (h0 : 0 < s) (hs : s < 32) : rotl32 (rotl32 x s) (32 - s) = x := by
  rw [or_split _ _ (rotl32_lt hx) (by omega), or_split _ _ hx (by omega), show 32 - (32 - s) = s from by omega]
  have e : (4294967296 : Nat) = 2 ^ (32 - s) * 2 ^ s := by rw [← Nat.pow_add, show 32 - s + s = 32 from by omega]
  have h : x / 2 ^ (32 - s) < 2 ^ s := by
    rw [Nat.div_lt_iff_lt_mul (Nat.two_pow_pos _), Nat.mul_comm, ← e]
    exact hx
  have h1 := Nat.two_pow_pos s
  generalize 2 ^ s = p at *
  generalize 2 ^ (32 - s) = q at *
  rw [Nat.mul_comm (x % q) p, Nat.mul_add_mod, Nat.mod_eq_of_lt h, Nat.mul_add_div h1, Nat.div_eq_of_lt h, Nat.add_zero, Nat.mul_comm]
  exact Nat.div_add_mod x q

set_option maxHeartbeats 400000 in
theorem rot32_any (x s : Nat) (k : Int) (w : World) (hx : x < 4294967296) (hk : bits .and .u64 (IntKind.u64.wrap k) 31 = (s : Int)) (h0 : 0 < s) (h32 : s < 32) :
    Calls Tryz.prog 283 #[.int .u32 x, .int .i64 k] w fun e w' => e = .returned (.int .u32 (rotl32 x s : Nat)) ∧ w = w' := by
  have e2 : IntKind.u64.wrap (32 - (s : Int)) = 32 - (s : Int) := IntWalk.u64_in _ (by omega)
  have e3 : (s : Int) ≤ 32 := by omega
  have e4 : 32 - (s : Int) ≤ 32 := by omega
  have e5 : 0 ≤ 32 - (s : Int) := by omega
  go_enter Tryz.func283, Tryz.ntmps283
  go_wp2
  go_ret
  refine ⟨ret_int ?_, rfl⟩
  refine rot32_val hx _ ?_ _ ?_
  · simp
  · simp

end Go.Proofs.YtmomfbkpniblgaaGreatDoor

namespace Go.Proofs.YtmomfbkpniblgaaGreatDoor
set_option linter.unusedVariables false

/-- 2^64. -/
abbrev W64 : Nat := 18446744073709551616

/-- The words of a number, modulo 2^192. -/
def N3 (x : Nat) : Value := .agg #[.int .u64 ((x % 18446744073709551616 : Nat) : Int), .int .u64 ((x / 18446744073709551616 % 18446744073709551616 : Nat) : Int), .int .u64 ((x / 18446744073709551616 / 18446744073709551616 % 18446744073709551616 : Nat) : Int)]

/-- The sum's words out of the words. -/
theorem sum_words (x y : Nat) : ∃ c0 c1 : Nat, c0 ≤ 1 ∧ c1 ≤ 1 ∧ c0 = (x % 18446744073709551616 + y % 18446744073709551616) / 18446744073709551616 ∧
    (x % 18446744073709551616 + y % 18446744073709551616) % 18446744073709551616 = (x + y) % 18446744073709551616 ∧
    c1 = (x / 18446744073709551616 % 18446744073709551616 + y / 18446744073709551616 % 18446744073709551616 + c0) / 18446744073709551616 ∧
    (x / 18446744073709551616 % 18446744073709551616 + y / 18446744073709551616 % 18446744073709551616 + c0) % 18446744073709551616 = (x + y) / 18446744073709551616 % 18446744073709551616 ∧
    (x / 18446744073709551616 / 18446744073709551616 % 18446744073709551616 + y / 18446744073709551616 / 18446744073709551616 % 18446744073709551616 + c1) % 18446744073709551616 = (x + y) / 18446744073709551616 / 18446744073709551616 % 18446744073709551616 := by
  have h1 : (x + y) / 18446744073709551616 = x / 18446744073709551616 + y / 18446744073709551616 + (x % 18446744073709551616 + y % 18446744073709551616) / 18446744073709551616 := by omega
  refine ⟨_, _, ?_, ?_, rfl, ?_, rfl, ?_, ?_⟩
  · omega
  · omega
  · omega
  · rw [h1]; omega
  · rw [h1]
    have h0 : (x % 18446744073709551616 + y % 18446744073709551616) / 18446744073709551616 ≤ 1 := by omega
    generalize (x % 18446744073709551616 + y % 18446744073709551616) / 18446744073709551616 = c at *
    generalize x / 18446744073709551616 = X
    generalize y / 18446744073709551616 = Y
    have h2 : (X + Y + c) / 18446744073709551616 = X / 18446744073709551616 + Y / 18446744073709551616 + (X % 18446744073709551616 + Y % 18446744073709551616 + c) / 18446744073709551616 := by omega
    rw [h2]
    omega

/-- Folded: what lies above 2^130, five times, is added below. -/
def pfold (x : Nat) : Nat := x % 1361129467683753853853498429727072845824 + 5 * (x / 1361129467683753853853498429727072845824) % 18446744073709551616

/-- A product, nearly modulo 2^130 - 5. -/
def pmul (x r : Nat) : Nat := pfold ((x * r % 1361129467683753853853498429727072845824 + 5 * (x * r / 1361129467683753853853498429727072845824)) % 6277101735386680763835789423207666416102355444464034512896)

def pleast (x : Nat) : Nat :=
  let y := pfold x
  let m := y + 5
  if 0 < m / 18446744073709551616 / 18446744073709551616 % 18446744073709551616 / 4 then m % 1361129467683753853853498429727072845824 else y

theorem of_words (a b c : Nat) (ha : a < 18446744073709551616) (hb : b < 18446744073709551616) (hc : c < 18446744073709551616) (x : Nat) (hx : x = a + 18446744073709551616 * b + 340282366920938463463374607431768211456 * c) :
    x % 18446744073709551616 = a ∧ x / 18446744073709551616 % 18446744073709551616 = b ∧ x / 18446744073709551616 / 18446744073709551616 % 18446744073709551616 = c := by
  have h1 : x / 18446744073709551616 = b + 18446744073709551616 * c := by omega
  refine ⟨by omega, by rw [h1]; omega, by rw [h1]; omega⟩
theorem words_of (x a b c : Nat) (hx : x < 6277101735386680763835789423207666416102355444464034512896) (ha : a = x % 18446744073709551616) (hb : b = x / 18446744073709551616 % 18446744073709551616) (hc : c = x / 18446744073709551616 / 18446744073709551616 % 18446744073709551616) :
    x = a + 18446744073709551616 * b + 340282366920938463463374607431768211456 * c ∧ a < 18446744073709551616 ∧ b < 18446744073709551616 ∧ c < 18446744073709551616 := by
  have h0 : x / 18446744073709551616 < 340282366920938463463374607431768211456 := by omega
  have h1 : x / 18446744073709551616 / 18446744073709551616 < 18446744073709551616 := by omega
  refine ⟨?_, by omega, by omega, by omega⟩
  omega
theorem fold_words (x a b c : Nat) (h : x = a + 18446744073709551616 * b + 340282366920938463463374607431768211456 * c) (ha : a < 18446744073709551616) (hb : b < 18446744073709551616) :
   x % 1361129467683753853853498429727072845824 = a + 18446744073709551616 * b + 340282366920938463463374607431768211456 * (c % 4) ∧ x / 1361129467683753853853498429727072845824 = c / 4 := by omega

theorem N3_of (a b c : Nat) (ha : a < 18446744073709551616) (hb : b < 18446744073709551616) (hc : c < 18446744073709551616) :
    N3 (a + 18446744073709551616 * b + 340282366920938463463374607431768211456 * c) = .agg #[.int .u64 (a : Int), .int .u64 (b : Int), .int .u64 (c : Int)] := by
  obtain ⟨h1, h2, h3⟩ := of_words a b c ha hb hc _ rfl
  unfold N3
  rw [h1, h2, h3]

theorem N3_small (a : Nat) (ha : a < 18446744073709551616) : N3 a = .agg #[.int .u64 (a : Int), .int .u64 0, .int .u64 0] := by
  have := N3_of a 0 0 ha (by omega) (by omega)
  simpa using this

theorem N3_two (a b : Nat) (ha : a < 18446744073709551616) (hb : b < 18446744073709551616) : N3 (a + 18446744073709551616 * b) = .agg #[.int .u64 (a : Int), .int .u64 (b : Int), .int .u64 0] := by
  have := N3_of a b 0 ha hb (by omega)
  simpa using this

/-- Only what is below 2^192 counts. -/
theorem N3_mod (x : Nat) : N3 (x % 6277101735386680763835789423207666416102355444464034512896) = N3 x := by
  have e1 : x % 6277101735386680763835789423207666416102355444464034512896 % 18446744073709551616 = x % 18446744073709551616 := by omega
  have e2 : x % 6277101735386680763835789423207666416102355444464034512896 / 18446744073709551616 % 18446744073709551616 = x / 18446744073709551616 % 18446744073709551616 := by omega
  have e3 : x % 6277101735386680763835789423207666416102355444464034512896 / 18446744073709551616 / 18446744073709551616 % 18446744073709551616 = x / 18446744073709551616 / 18446744073709551616 % 18446744073709551616 := by omega
  unfold N3
  rw [e1, e2, e3]

end Go.Proofs.YtmomfbkpniblgaaGreatDoor

namespace Go.Proofs.YtmomfbkpniblgaaGreatDoor
open Go.RowKit
set_option linter.unusedVariables false

abbrev W4 := Nat × Nat × Nat × Nat
def add32 (a b : Nat) : Nat := (a + b) % 4294967296
def sub32 (a b : Nat) : Nat := (a + (4294967296 - b)) % 4294967296

/-- One of the two steps of a quarter. -/
def qstep (s t : Nat) : W4 → W4
  | (a, b, c, d) =>
    let a := add32 a b
    let d := rotl32 (d ^^^ a) s
    let c := add32 c d
    let b := rotl32 (b ^^^ c) t
    (a, b, c, d)

def qquarter (x : W4) : W4 := qstep 8 7 (qstep 16 12 x)

def bstep (s t : Nat) : W4 → W4
  | (a, b, c, d) =>
    let b := rotl32 b (32 - t) ^^^ c
    let c := sub32 c d
    let d := rotl32 d (32 - s) ^^^ a
    let a := sub32 a b
    (a, b, c, d)

def qback (x : W4) : W4 := bstep 16 12 (bstep 8 7 x)

def Ok4 : W4 → Prop
  | (a, b, c, d) => a < 4294967296 ∧ b < 4294967296 ∧ c < 4294967296 ∧ d < 4294967296

theorem qstep_ok (s t : Nat) (x : W4) (h : Ok4 x) : Ok4 (qstep s t x) := by
  obtain ⟨a, b, c, d⟩ := x
  obtain ⟨ha, hb, hc, hd⟩ := h
  have h1 : add32 a b < 4294967296 := Nat.mod_lt _ (by omega)
  have h2 := rotl32_lt (s := s) (xor32_lt hd h1)
  have h3 : add32 c (rotl32 (d ^^^ add32 a b) s) < 4294967296 := Nat.mod_lt _ (by omega)
  exact ⟨h1, rotl32_lt (xor32_lt hb h3), h3, h2⟩

theorem bstep_ok (s t : Nat) (x : W4) (h : Ok4 x) : Ok4 (bstep s t x) := by
  obtain ⟨a, b, c, d⟩ := x
  obtain ⟨ha, hb, hc, hd⟩ := h
  exact ⟨Nat.mod_lt _ (by omega), xor32_lt (rotl32_lt hb) hc, Nat.mod_lt _ (by omega), xor32_lt (rotl32_lt hd) ha⟩

theorem sub_add32 {a b : Nat} (ha : a < 4294967296) (hb : b < 4294967296) : sub32 (add32 a b) b = a := by unfold sub32 add32; omega
theorem add_sub32 {a b : Nat} (ha : a < 4294967296) (hb : b < 4294967296) : add32 (sub32 a b) b = a := by unfold sub32 add32; omega

theorem bstep_qstep (s t : Nat) (hs : 0 < s ∧ s < 32) (ht : 0 < t ∧ t < 32) (x : W4) (h : Ok4 x) : bstep s t (qstep s t x) = x := by
  have ok := qstep_ok s t x h
  obtain ⟨a, b, c, d⟩ := x
  obtain ⟨ha, hb, hc, hd⟩ := h
  simp only [qstep, bstep] at ok ⊢
  obtain ⟨o1, o2, o3, o4⟩ := ok
  rw [rotl32_back _ t (xor32_lt hb o3) ht.1 ht.2, rotl32_back _ s (xor32_lt hd o1) hs.1 hs.2, Nat.xor_assoc, Nat.xor_assoc, Nat.xor_self, Nat.xor_self, Nat.xor_zero, Nat.xor_zero, sub_add32 ha hb, sub_add32 hc o4]

theorem rotl32_forth (x s : Nat) (hx : x < 4294967296) (h0 : 0 < s) (hs : s < 32) : rotl32 (rotl32 x (32 - s)) s = x := by
  have := rotl32_back x (32 - s) hx (by omega) (by omega)
  rwa [show 32 - (32 - s) = s from by omega] at this

theorem qstep_bstep (s t : Nat) (hs : 0 < s ∧ s < 32) (ht : 0 < t ∧ t < 32) (x : W4) (h : Ok4 x) : qstep s t (bstep s t x) = x := by
  have ok := bstep_ok s t x h
  obtain ⟨a, b, c, d⟩ := x
  obtain ⟨ha, hb, hc, hd⟩ := h
  simp only [qstep, bstep] at ok ⊢
  obtain ⟨o1, o2, o3, o4⟩ := ok
  rw [add_sub32 ha o2, Nat.xor_assoc (rotl32 d (32 - s)) a a, Nat.xor_self, Nat.xor_zero, rotl32_forth _ s hd hs.1 hs.2, add_sub32 hc hd, Nat.xor_assoc, Nat.xor_self, Nat.xor_zero, rotl32_forth _ t hb ht.1 ht.2]

theorem qback_qquarter (x : W4) (h : Ok4 x) : qback (qquarter x) = x := by
  unfold qback qquarter
  rw [bstep_qstep 8 7 (by omega) (by omega) _ (qstep_ok _ _ _ h), bstep_qstep 16 12 (by omega) (by omega) _ h]

theorem qquarter_qback (x : W4) (h : Ok4 x) : qquarter (qback x) = x := by
  unfold qback qquarter
  rw [qstep_bstep 16 12 (by omega) (by omega) _ (bstep_ok _ _ _ h), qstep_bstep 8 7 (by omega) (by omega) _ h]

/-- Four words as results. -/
def R4 : W4 → Value
  | (a, b, c, d) => .tuple #[.int .u32 a, .int .u32 b, .int .u32 c, .int .u32 d]

theorem add32_val (a b : Nat) : ((a : Int) + (b : Int)) % 4294967296 = ((add32 a b : Nat) : Int) := by unfold add32; omega
theorem sub32_val (a b : Nat) (hb : b < 4294967296) : ((a : Int) - (b : Int)) % 4294967296 = ((sub32 a b : Nat) : Int) := by unfold sub32; omega

theorem idxQ0 (w : World) (a b c d : Int) : (Instr.index 379 (.agg #[.int .i64 a, .int .i64 b, .int .i64 c, .int .i64 d]) (.int .i64 0)).run Tryz.prog w = .ok (.agg #[.int .i64 a, .int .i64 b]) w := by kernel_rfl
theorem idxQ1 (w : World) (a b c d : Int) : (Instr.index 379 (.agg #[.int .i64 a, .int .i64 b, .int .i64 c, .int .i64 d]) (.int .i64 1)).run Tryz.prog w = .ok (.agg #[.int .i64 c, .int .i64 d]) w := by kernel_rfl

set_option maxHeartbeats 1000000 in
theorem code_quarter (w : World) (a b c d : Nat) (ha : a < 4294967296) (hb : b < 4294967296) (hc : c < 4294967296) (hd : d < 4294967296) :
    Calls Tryz.prog 282 #[.int .u32 a, .int .u32 b, .int .u32 c, .int .u32 d] w fun e w' => e = .returned (R4 (qquarter (a, b, c, d))) ∧ w.grownBy w' none := by
  have k1 : bits .and .u64 (IntKind.u64.wrap 16) 31 = ((16 : Nat) : Int) := by decide +kernel
  have k2 : bits .and .u64 (IntKind.u64.wrap 12) 31 = ((12 : Nat) : Int) := by decide +kernel
  have k3 : bits .and .u64 (IntKind.u64.wrap 8) 31 = ((8 : Nat) : Int) := by decide +kernel
  have k4 : bits .and .u64 (IntKind.u64.wrap 7) 31 = ((7 : Nat) : Int) := by decide +kernel
  have hi0 := idxQ0
  have hi1 := idxQ1
  have HF : ∃ V, V = R4 (qquarter (a, b, c, d)) := ⟨_, rfl⟩
  obtain ⟨V, hV⟩ := HF
  rw [← hV]
  have HV := Lib.hid hV
  clear hV
  go_enter Tryz.func282, Tryz.ntmps282
  go_wp2_with fail
  refine wp_loop_rounds 3 ?_
  rw [rounds_succ]
  go_wp2_with fail
  rw [add32_val a b]
  obtain ⟨a1, ea1⟩ : ∃ z, z = add32 a b := ⟨_, rfl⟩
  have la1 : a1 < 4294967296 := by rw [ea1]; exact Nat.mod_lt _ (by omega)
  rw [← ea1, u32_xor_nat _ _ hd la1]
  have Ea1 := Lib.hid ea1
  clear ea1
  refine (rot32_any _ 16 _ _ (xor32_lt hd la1) k1 (by omega) (by omega)).mono ?_
  rintro e x1 ⟨rfl, rfl⟩
  obtain ⟨d1, ed1⟩ : ∃ z, z = rotl32 (d ^^^ a1) 16 := ⟨_, rfl⟩
  have ld1 : d1 < 4294967296 := by rw [ed1]; exact rotl32_lt (xor32_lt hd la1)
  rw [← ed1]
  have Ed1 := Lib.hid ed1
  clear ed1
  go_wp2_with fail
  rw [add32_val c d1]
  obtain ⟨c1, ec1⟩ : ∃ z, z = add32 c d1 := ⟨_, rfl⟩
  have lc1 : c1 < 4294967296 := by rw [ec1]; exact Nat.mod_lt _ (by omega)
  rw [← ec1, u32_xor_nat _ _ hb lc1]
  have Ec1 := Lib.hid ec1
  clear ec1
  refine (rot32_any _ 12 _ _ (xor32_lt hb lc1) k2 (by omega) (by omega)).mono ?_
  rintro e y1 ⟨rfl, rfl⟩
  obtain ⟨b1, eb1⟩ : ∃ z, z = rotl32 (b ^^^ c1) 12 := ⟨_, rfl⟩
  have lb1 : b1 < 4294967296 := by rw [eb1]; exact rotl32_lt (xor32_lt hb lc1)
  rw [← eb1]
  have Eb1 := Lib.hid eb1
  clear eb1
  go_wp2_with fail
  rw [rounds_succ]
  go_wp2_with fail
  rw [add32_val a1 b1]
  obtain ⟨a2, ea2⟩ : ∃ z, z = add32 a1 b1 := ⟨_, rfl⟩
  have la2 : a2 < 4294967296 := by rw [ea2]; exact Nat.mod_lt _ (by omega)
  rw [← ea2, u32_xor_nat _ _ ld1 la2]
  have Ea2 := Lib.hid ea2
  clear ea2
  refine (rot32_any _ 8 _ _ (xor32_lt ld1 la2) k3 (by omega) (by omega)).mono ?_
  rintro e x2 ⟨rfl, rfl⟩
  obtain ⟨d2, ed2⟩ : ∃ z, z = rotl32 (d1 ^^^ a2) 8 := ⟨_, rfl⟩
  have ld2 : d2 < 4294967296 := by rw [ed2]; exact rotl32_lt (xor32_lt ld1 la2)
  rw [← ed2]
  have Ed2 := Lib.hid ed2
  clear ed2
  go_wp2_with fail
  rw [add32_val c1 d2]
  obtain ⟨c2, ec2⟩ : ∃ z, z = add32 c1 d2 := ⟨_, rfl⟩
  have lc2 : c2 < 4294967296 := by rw [ec2]; exact Nat.mod_lt _ (by omega)
  rw [← ec2, u32_xor_nat _ _ lb1 lc2]
  have Ec2 := Lib.hid ec2
  clear ec2
  refine (rot32_any _ 7 _ _ (xor32_lt lb1 lc2) k4 (by omega) (by omega)).mono ?_
  rintro e y2 ⟨rfl, rfl⟩
  obtain ⟨b2, eb2⟩ : ∃ z, z = rotl32 (b1 ^^^ c2) 7 := ⟨_, rfl⟩
  have lb2 : b2 < 4294967296 := by rw [eb2]; exact rotl32_lt (xor32_lt lb1 lc2)
  rw [← eb2]
  have Eb2 := Lib.hid eb2
  clear eb2
  go_wp2_with fail
  rw [rounds_succ]
  go_wp2_with fail
  go_returns
  refine ⟨?_, by repeat (first | exact grow_refl _ _ | apply grow_drew | apply grow_setCell_new _ _ (by simp) | apply grow_alloc)⟩
  rw [HV.out]
  have ea1 := Ea1.out
  have ed1 := Ed1.out
  have ec1 := Ec1.out
  have eb1 := Eb1.out
  have ea2 := Ea2.out
  have ed2 := Ed2.out
  have ec2 := Ec2.out
  have eb2 := Eb2.out
  clear Ea1 Ed1 Ec1 Eb1 Ea2 Ed2 Ec2 Eb2
  subst ea1 ed1 ec1 eb1 ea2 ed2 ec2 eb2
  rfl

end Go.Proofs.YtmomfbkpniblgaaGreatDoor

namespace Go.Proofs.YtmomfbkpniblgaaGreatDoor
open Go.RowKit
set_option linter.unusedVariables false

/-- times x -/
def gx (a : Nat) : Nat := (a * 2 % 256) ^^^ (a / 128 * 27)

/-- the loop of Mul, so many rounds -/
def gm : Nat → Nat → Nat → Nat → Nat
  | 0, n, _, _ => n
  | f + 1, n, a, b => gm f (n ^^^ (a * (b &&& 1))) (gx a) (b / 2)

def gmul (a b : Nat) : Nat := gm 8 0 a b

theorem all1_spec {p : Nat → Bool} (h : (List.range 256).all p = true) {a : Nat} (ha : a < 256) : p a = true :=
  List.all_eq_true.1 h a (List.mem_range.2 ha)

theorem xor_double (a b : Nat) : (a ^^^ b) * 2 = a * 2 ^^^ b * 2 := by
  apply Nat.eq_of_testBit_eq
  intro i
  have e : ∀ x : Nat, x * 2 = x * 2 ^ 1 := fun x => by simp
  rw [e, e a, e b, Nat.testBit_xor, Nat.testBit_mul_two_pow, Nat.testBit_mul_two_pow, Nat.testBit_mul_two_pow, Nat.testBit_xor]
  by_cases h : 1 ≤ i <;> simp [h]

theorem xor_mod (a b n : Nat) : (a ^^^ b) % 2 ^ n = a % 2 ^ n ^^^ b % 2 ^ n := Nat.xor_mod_two_pow

theorem xor_div (a b n : Nat) : (a ^^^ b) / 2 ^ n = a / 2 ^ n ^^^ b / 2 ^ n := Nat.xor_div_two_pow

theorem xor_lt {a b : Nat} (ha : a < 256) (hb : b < 256) : a ^^^ b < 256 := Nat.xor_lt_two_pow (n := 8) ha hb

theorem mul_bit_l {a b t : Nat} (ht : t < 2) : (a ^^^ b) * t = a * t ^^^ b * t := by
  match t, ht with
  | 0, _ => simp
  | 1, _ => simp

theorem mul_bit_r {s t k : Nat} (hs : s < 2) (ht : t < 2) : k * (s ^^^ t) = k * s ^^^ k * t := by
  match s, t, hs, ht with
  | 0, 0, _, _ => simp
  | 0, 1, _, _ => simp
  | 1, 0, _, _ => simp
  | 1, 1, _, _ => simp

theorem gx_xor {a b : Nat} (ha : a < 256) (hb : b < 256) : gx (a ^^^ b) = gx a ^^^ gx b := by
  unfold gx
  have e1 : (a ^^^ b) * 2 % 256 = a * 2 % 256 ^^^ b * 2 % 256 := by rw [xor_double]; exact xor_mod _ _ 8
  have e2 : (a ^^^ b) / 128 = a / 128 ^^^ b / 128 := xor_div _ _ 7
  have e3 : (a / 128 ^^^ b / 128) * 27 = a / 128 * 27 ^^^ b / 128 * 27 := by
    rw [Nat.mul_comm, mul_bit_r (by omega) (by omega), Nat.mul_comm, Nat.mul_comm 27]
  rw [e1, e2, e3]
  ac_rfl

theorem gx_lt {a : Nat} (ha : a < 256) : gx a < 256 := by
  unfold gx
  refine xor_lt (Nat.mod_lt _ (by omega)) ?_
  have : a / 128 < 2 := by omega
  omega

theorem and_one_lt (b : Nat) : b &&& 1 < 2 := by rw [nat_mask1]; omega

theorem gm_lt : ∀ (f n a b : Nat), n < 256 → a < 256 → gm f n a b < 256
  | 0, n, a, b, hn, _ => hn
  | f + 1, n, a, b, hn, ha => by
    refine gm_lt f _ _ _ (xor_lt hn ?_) (gx_lt ha)
    have := and_one_lt b
    generalize b &&& 1 = t at *
    match t, this with
    | 0, _ => simp
    | 1, _ => simpa using ha

theorem gmul_lt {a : Nat} (ha : a < 256) (b : Nat) : gmul a b < 256 := gm_lt 8 0 a b (by omega) ha

theorem gm_xor_l : ∀ (f n n' a a' b : Nat), a < 256 → a' < 256 → gm f (n ^^^ n') (a ^^^ a') b = gm f n a b ^^^ gm f n' a' b
  | 0, n, n', a, a', b, _, _ => rfl
  | f + 1, n, n', a, a', b, ha, ha' => by
    simp only [gm]
    rw [gx_xor ha ha', mul_bit_l (and_one_lt b)]
    rw [← gm_xor_l f _ _ _ _ _ (gx_lt ha) (gx_lt ha')]
    congr 1
    ac_rfl

theorem gmul_xor_l {a a' : Nat} (ha : a < 256) (ha' : a' < 256) (b : Nat) : gmul (a ^^^ a') b = gmul a b ^^^ gmul a' b := gm_xor_l 8 0 0 a a' b ha ha'

theorem gm_xor_r : ∀ (f n n' a b b' : Nat), gm f (n ^^^ n') a (b ^^^ b') = gm f n a b ^^^ gm f n' a b'
  | 0, n, n', a, b, b' => rfl
  | f + 1, n, n', a, b, b' => by
    simp only [gm]
    have e1 : (b ^^^ b') / 2 = b / 2 ^^^ b' / 2 := xor_div _ _ 1
    have e2 : (b ^^^ b') &&& 1 = (b &&& 1) ^^^ (b' &&& 1) := by rw [nat_mask1, nat_mask1, nat_mask1]; exact xor_mod _ _ 1
    rw [e1, e2, mul_bit_r (and_one_lt b) (and_one_lt b'), ← gm_xor_r f]
    congr 1
    ac_rfl

theorem gmul_xor_r (a b b' : Nat) : gmul a (b ^^^ b') = gmul a b ^^^ gmul a b' := gm_xor_r 8 0 0 a b b'

/-- A byte is x times a smaller one, and a bit. -/
theorem byte_step {c : Nat} (hc : c < 256) : c / 2 < 256 ∧ c = gx (c / 2) ^^^ (c % 2) := by
  refine ⟨by omega, ?_⟩
  have h : (List.range 256).all (fun c => c == gx (c / 2) ^^^ (c % 2)) = true := by decide +kernel
  simpa using all1_spec h hc

/-- WHAT HOLDS OF 0 AND OF 1, goes over to sums and to x times it, holds of each byte. -/
theorem byte_ind (p : Nat → Prop) (h0 : p 0) (h1 : p 1) (hx : ∀ a, a < 256 → p a → p (gx a)) (ha : ∀ a b, a < 256 → b < 256 → p a → p b → p (a ^^^ b)) : ∀ c, c < 256 → p c := by
  intro c
  induction c using Nat.strongRecOn with
  | ind c ih =>
    intro hc
    by_cases h : c = 0
    · subst h; exact h0
    · obtain ⟨h2, h3⟩ := byte_step hc
      rw [h3]
      refine ha _ _ (gx_lt h2) (by omega) (hx _ h2 (ih _ (by omega) h2)) ?_
      rcases (show c % 2 = 0 ∨ c % 2 = 1 by omega) with e | e <;> rw [e] <;> assumption

theorem gmul_zero (a : Nat) : gmul a 0 = 0 := by
  have := gmul_xor_r a 0 0
  simpa using this

theorem zero_gmul (b : Nat) : gmul 0 b = 0 := by
  have := gmul_xor_l (a := 0) (a' := 0) (by omega) (by omega) b
  simpa using this

theorem gmul_one {a : Nat} (ha : a < 256) : gmul a 1 = a := by
  have h : (List.range 256).all (fun a => gmul a 1 == a) = true := by decide +kernel
  simpa using all1_spec h ha

theorem one_gmul {b : Nat} (hb : b < 256) : gmul 1 b = b := by
  have h : (List.range 256).all (fun b => gmul 1 b == b) = true := by decide +kernel
  simpa using all1_spec h hb

/-- x times a byte is times 2. -/
theorem gmul_two {a : Nat} (ha : a < 256) : gmul a 2 = gx a := by
  have h : (List.range 256).all (fun a => gmul a 2 == gx a) = true := by decide +kernel
  simpa using all1_spec h ha

theorem gm_gx_l : ∀ (f n a b : Nat), n < 256 → a < 256 → gm f (gx n) (gx a) b = gx (gm f n a b)
  | 0, n, a, b, _, _ => rfl
  | f + 1, n, a, b, hn, ha => by
    simp only [gm]
    have hl : a * (b &&& 1) < 256 := by
      have := and_one_lt b
      generalize b &&& 1 = t at *
      match t, this with
      | 0, _ => simp
      | 1, _ => simpa using ha
    rw [← gm_gx_l f _ _ _ (xor_lt hn hl) (gx_lt ha), gx_xor hn hl]
    congr 2
    have := and_one_lt b
    generalize b &&& 1 = t at *
    match t, this with
    | 0, _ => simp [gx]
    | 1, _ => simp

theorem gmul_gx_l {a : Nat} (ha : a < 256) (b : Nat) : gmul (gx a) b = gx (gmul a b) := by
  have := gm_gx_l 8 0 a b (by omega) ha
  simpa [gx, gmul] using this

theorem gmul_gx_r {b : Nat} (hb : b < 256) : ∀ a, a < 256 → gmul a (gx b) = gx (gmul a b) := by
  refine byte_ind _ ?_ ?_ ?_ ?_
  · rw [zero_gmul, zero_gmul]; rfl
  · rw [one_gmul (gx_lt hb), one_gmul hb]
  · intro a ha ih
    rw [gmul_gx_l ha, gmul_gx_l ha, ih]
  · intro a a' ha ha' h h'
    rw [gmul_xor_l ha ha', gmul_xor_l ha ha', h, h', gx_xor (gmul_lt ha _) (gmul_lt ha' _)]

theorem gmul_comm {a : Nat} (ha : a < 256) : ∀ b, b < 256 → gmul a b = gmul b a := by
  refine byte_ind _ ?_ ?_ ?_ ?_
  · rw [gmul_zero, zero_gmul]
  · rw [gmul_one ha, one_gmul ha]
  · intro b hb ih
    rw [gmul_gx_r hb a ha, gmul_gx_l hb, ih]
  · intro b b' hb hb' h h'
    rw [gmul_xor_r, gmul_xor_l hb hb', h, h']

theorem gmul_assoc {a b : Nat} (ha : a < 256) (hb : b < 256) : ∀ c, c < 256 → gmul (gmul a b) c = gmul a (gmul b c) := by
  refine byte_ind _ ?_ ?_ ?_ ?_
  · rw [gmul_zero, gmul_zero, gmul_zero]
  · rw [gmul_one (gmul_lt ha _), gmul_one hb]
  · intro c hc ih
    rw [gmul_gx_r hc _ (gmul_lt ha _), ih, gmul_gx_r hc b hb, gmul_gx_r (gmul_lt hb _) a ha]
  · intro c c' hc hc' h h'
    rw [gmul_xor_r, gmul_xor_r, gmul_xor_r, h, h']

/-- the loop of Inv -/
def gi : Nat → Nat → Nat → Nat
  | 0, n, _ => n
  | f + 1, n, q => gi f (gmul n (gmul q q)) (gmul q q)

def ginv (a : Nat) : Nat := gi 7 1 a

theorem gi_lt : ∀ (f n q : Nat), n < 256 → q < 256 → gi f n q < 256
  | 0, n, q, hn, _ => hn
  | f + 1, n, q, hn, hq => gi_lt f _ _ (gmul_lt hn _) (gmul_lt hq _)

theorem ginv_lt {a : Nat} (ha : a < 256) : ginv a < 256 := gi_lt 7 1 a (by omega) ha

theorem gmul_inv {a : Nat} (ha : a < 256) (h0 : a ≠ 0) : gmul a (ginv a) = 1 := by
  have h : (List.range 256).all (fun a => a == 0 || gmul a (ginv a) == 1) = true := by decide +kernel
  have := all1_spec h ha
  simpa [h0] using this

theorem gmul_eq_zero {a b : Nat} (ha : a < 256) (hb : b < 256) : gmul a b = 0 ↔ a = 0 ∨ b = 0 := by
  constructor
  · intro h
    by_cases h0 : a = 0
    · exact Or.inl h0
    · right
      have e1 := gmul_inv ha h0
      have e2 := gmul_assoc (ginv_lt ha) ha b hb
      rw [gmul_comm (ginv_lt ha) a ha, e1, one_gmul hb, h, gmul_zero] at e2
      exact e2
  · rintro (rfl | rfl)
    · exact zero_gmul b
    · exact gmul_zero a

/-- to the left by so many bits, round -/
def rotl8 (a k : Nat) : Nat := (a * 2 ^ k % 256) ||| (a / 2 ^ (8 - k))

def gsub (a : Nat) : Nat := ginv a ^^^ 99 ^^^ rotl8 (ginv a) 1 ^^^ rotl8 (ginv a) 2 ^^^ rotl8 (ginv a) 3 ^^^ rotl8 (ginv a) 4

def gback (a : Nat) : Nat := ginv (rotl8 (a ^^^ 99) 1 ^^^ rotl8 (a ^^^ 99) 3 ^^^ rotl8 (a ^^^ 99) 6)

theorem rotl8_lt {a k : Nat} (ha : a < 256) : rotl8 a k < 256 := by
  unfold rotl8
  exact Nat.or_lt_two_pow (n := 8) (Nat.mod_lt _ (by omega)) (Nat.lt_of_le_of_lt (Nat.div_le_self _ _) ha)

theorem gsub_lt {a : Nat} (ha : a < 256) : gsub a < 256 := by
  have h := ginv_lt ha
  unfold gsub
  exact xor_lt (xor_lt (xor_lt (xor_lt (xor_lt h (by omega)) (rotl8_lt h)) (rotl8_lt h)) (rotl8_lt h)) (rotl8_lt h)

theorem gback_lt {a : Nat} (ha : a < 256) : gback a < 256 := by
  have h : a ^^^ 99 < 256 := xor_lt ha (by omega)
  exact ginv_lt (xor_lt (xor_lt (rotl8_lt h) (rotl8_lt h)) (rotl8_lt h))

theorem gback_sub {a : Nat} (ha : a < 256) : gback (gsub a) = a ∧ gsub (gback a) = a ∧ gsub a ≠ a ∧ gsub a ≠ 255 - a := by
  have h : (List.range 256).all (fun a => gback (gsub a) == a && gsub (gback a) == a && gsub a != a && gsub a != 255 - a) = true := by decide +kernel
  have := all1_spec h ha
  simpa [and_assoc] using this

theorem gsub_inj {a b : Nat} (ha : a < 256) (hb : b < 256) : gsub a = gsub b ↔ a = b := by
  constructor
  · intro h
    rw [← (gback_sub ha).1, h, (gback_sub hb).1]
  · intro h; rw [h]

end Go.Proofs.YtmomfbkpniblgaaGreatDoor

namespace Go.Proofs.YtmomfbkpniblgaaGreatDoor
set_option linter.unusedVariables false

def hOne : Nat := 2 ^ 127
def hRed : Nat := 0xe1000000000000000000000000000000
/-- times x -/
def qx (a : Nat) : Nat := a / 2 ^^^ (a % 2) * hRed
/-- the loop of times, so many rounds -/
def hm : Nat → Nat → Nat → Nat → Nat
  | 0, n, _, _ => n
  | f + 1, n, p, q => hm f (n ^^^ (p / 2 ^ f % 2) * q) p (qx q)
def hmul (p q : Nat) : Nat := hm 128 0 p q

theorem hxor_lt {a b : Nat} (ha : a < 2 ^ 128) (hb : b < 2 ^ 128) : a ^^^ b < 2 ^ 128 := Nat.xor_lt_two_pow ha hb
theorem hbit_l {s t k : Nat} (hs : s < 2) (ht : t < 2) : (s ^^^ t) * k = s * k ^^^ t * k := by
  match s, t, hs, ht with
  | 0, 0, _, _ => simp
  | 0, 1, _, _ => simp
  | 1, 0, _, _ => simp
  | 1, 1, _, _ => simp
theorem hbit_r {a b t : Nat} (ht : t < 2) : t * (a ^^^ b) = t * a ^^^ t * b := by
  match t, ht with
  | 0, _ => simp
  | 1, _ => simp
theorem hbit_lt {t k : Nat} (ht : t < 2) (hk : k < 2 ^ 128) : t * k < 2 ^ 128 := by
  match t, ht with
  | 0, _ => simp
  | 1, _ => simpa using hk

theorem qx_xor (a b : Nat) : qx (a ^^^ b) = qx a ^^^ qx b := by
  unfold qx
  have e1 : (a ^^^ b) / 2 = a / 2 ^^^ b / 2 := Nat.xor_div_two_pow (n := 1)
  have e2 : (a ^^^ b) % 2 = a % 2 ^^^ b % 2 := Nat.xor_mod_two_pow (n := 1)
  rw [e1, e2, hbit_l (by omega) (by omega)]
  ac_rfl
theorem qx_lt {a : Nat} (ha : a < 2 ^ 128) : qx a < 2 ^ 128 := by
  unfold qx
  exact hxor_lt (by omega) (hbit_lt (by omega) (by decide))

theorem hm_lt : ∀ (f n p q : Nat), n < 2 ^ 128 → q < 2 ^ 128 → hm f n p q < 2 ^ 128
  | 0, n, p, q, hn, _ => hn
  | f + 1, n, p, q, hn, hq => hm_lt f _ _ _ (hxor_lt hn (hbit_lt (by omega) hq)) (qx_lt hq)
theorem hmul_lt (p : Nat) {q : Nat} (hq : q < 2 ^ 128) : hmul p q < 2 ^ 128 := hm_lt 128 0 p q (by decide) hq

theorem hm_xor_r : ∀ (f n n' p q q' : Nat), hm f (n ^^^ n') p (q ^^^ q') = hm f n p q ^^^ hm f n' p q'
  | 0, n, n', p, q, q' => rfl
  | f + 1, n, n', p, q, q' => by
    simp only [hm]
    rw [qx_xor, hbit_r (by omega), ← hm_xor_r f]
    congr 1
    ac_rfl
theorem hmul_xor_r (p q q' : Nat) : hmul p (q ^^^ q') = hmul p q ^^^ hmul p q' := hm_xor_r 128 0 0 p q q'
theorem hm_xor_l : ∀ (f n n' p p' q : Nat), hm f (n ^^^ n') (p ^^^ p') q = hm f n p q ^^^ hm f n' p' q
  | 0, n, n', p, p', q => rfl
  | f + 1, n, n', p, p', q => by
    simp only [hm]
    have e : (p ^^^ p') / 2 ^ f % 2 = p / 2 ^ f % 2 ^^^ p' / 2 ^ f % 2 := by
      rw [Nat.xor_div_two_pow]; exact Nat.xor_mod_two_pow (n := 1)
    rw [e, hbit_l (by omega) (by omega), ← hm_xor_l f]
    congr 1
    ac_rfl
theorem hmul_xor_l (p p' q : Nat) : hmul (p ^^^ p') q = hmul p q ^^^ hmul p' q := hm_xor_l 128 0 0 p p' q
theorem hm_qx : ∀ (f n p q : Nat), hm f (qx n) p (qx q) = qx (hm f n p q)
  | 0, n, p, q => rfl
  | f + 1, n, p, q => by
    simp only [hm]
    rw [← hm_qx f, qx_xor]
    congr 2
    have : p / 2 ^ f % 2 < 2 := by omega
    generalize p / 2 ^ f % 2 = t at *
    match t, this with
    | 0, _ => simp [qx]
    | 1, _ => simp
theorem hmul_qx_r (p q : Nat) : hmul p (qx q) = qx (hmul p q) := hm_qx 128 0 p q
theorem hmul_zero (p : Nat) : hmul p 0 = 0 := by simpa using hmul_xor_r p 0 0
theorem zero_hmul (q : Nat) : hmul 0 q = 0 := by simpa using hmul_xor_l 0 0 q

theorem hjoin (k a b : Nat) (hb : b < 2 ^ k) : 2 ^ k * a ^^^ b = 2 ^ k * a + b := by
  rw [Nat.two_pow_add_eq_or_of_lt hb]
  apply Nat.eq_of_testBit_eq
  intro i
  rw [Nat.testBit_xor, Nat.testBit_or, Nat.testBit_two_pow_mul]
  by_cases hi : k ≤ i
  · rw [Nat.testBit_lt_two_pow (Nat.lt_of_lt_of_le hb (Nat.pow_le_pow_right (by omega) hi))]
    simp
  · simp [hi]
theorem qx_half (a : Nat) (h : a % 2 = 0) : qx a = a / 2 := by unfold qx; rw [h]; simp
theorem hm_one : ∀ (f n p : Nat), hm (f + 1) n p (2 ^ f) = n ^^^ p % 2 ^ (f + 1)
  | 0, n, p => by simp [hm]
  | f + 1, n, p => by
    rw [hm, qx_half _ (by rw [Nat.pow_succ]; omega), show 2 ^ (f + 1) / 2 = 2 ^ f from by rw [Nat.pow_succ]; omega, hm_one f, Nat.xor_assoc]
    congr 1
    have h1 : p % 2 ^ (f + 1 + 1) = 2 ^ (f + 1) * (p / 2 ^ (f + 1) % 2) + p % 2 ^ (f + 1) := by
      rw [Nat.pow_succ 2 (f + 1), Nat.mod_mul]; omega
    rw [h1, Nat.mul_comm, hjoin _ _ _ (Nat.mod_lt _ (Nat.two_pow_pos _))]
theorem hmul_one {p : Nat} (hp : p < 2 ^ 128) : hmul p hOne = p := by
  have := hm_one 127 0 p
  rw [Nat.mod_eq_of_lt hp, Nat.zero_xor] at this
  exact this
theorem hm_none : ∀ (f n q : Nat), f ≤ 127 → hm f n hOne q = n
  | 0, n, q, _ => rfl
  | f + 1, n, q, h => by
    rw [hm]
    have e : hOne / 2 ^ f % 2 = 0 := by
      unfold hOne
      rw [Nat.pow_div (by omega) (by omega), show 127 - f = (126 - f) + 1 from by omega, Nat.pow_succ]
      omega
    rw [e, Nat.zero_mul, Nat.xor_zero]
    exact hm_none f n _ (by omega)
theorem one_hmul (q : Nat) : hmul hOne q = q := by
  unfold hmul
  rw [hm, hm_none 127 _ _ (by omega), show hOne / 2 ^ 127 % 2 = 1 from by decide, Nat.one_mul, Nat.zero_xor]

/-- WHAT HOLDS OF 0 AND OF 1, goes over to sums and to x times it, holds of each block. -/
theorem hind (p : Nat → Prop) (h0 : p 0) (h1 : p hOne) (hX : ∀ a, a < 2 ^ 128 → p a → p (qx a)) (hA : ∀ a b, a < 2 ^ 128 → b < 2 ^ 128 → p a → p b → p (a ^^^ b)) : ∀ c, c < 2 ^ 128 → p c := by
  have key : ∀ k, ∀ m, m < 2 ^ k → k ≤ 128 → p (m * 2 ^ (128 - k)) := by
    intro k
    induction k with
    | zero => intro m hm _; obtain rfl : m = 0 := by simpa using hm
              simpa using h0
    | succ k ih =>
      intro m hm hk
      have e : m * 2 ^ (128 - (k + 1)) = qx ((m % 2 ^ k) * 2 ^ (128 - k)) ^^^ (m / 2 ^ k) * hOne := by
        have e1 : 2 ^ (128 - k) = 2 ^ (128 - (k + 1)) * 2 := by rw [← Nat.pow_succ]; congr 1; omega
        rw [qx_half _ (by rw [e1, ← Nat.mul_assoc]; omega), e1, ← Nat.mul_assoc, Nat.mul_div_cancel _ (by omega)]
        have e2 : hOne = 2 ^ k * 2 ^ (128 - (k + 1)) := by unfold hOne; rw [← Nat.pow_add]; congr 1; omega
        have e3 : m / 2 ^ k < 2 := by rw [Nat.div_lt_iff_lt_mul (Nat.two_pow_pos _), Nat.mul_comm, ← Nat.pow_succ]; exact hm
        rw [e2, ← Nat.mul_assoc]
        have xm : ∀ a b j : Nat, (a ^^^ b) * 2 ^ j = a * 2 ^ j ^^^ b * 2 ^ j := by
          intro a b j
          apply Nat.eq_of_testBit_eq
          intro i
          rw [Nat.testBit_xor, Nat.testBit_mul_two_pow, Nat.testBit_mul_two_pow, Nat.testBit_mul_two_pow, Nat.testBit_xor]
          by_cases h : j ≤ i <;> simp [h]
        rw [← xm]
        congr 1
        rw [Nat.mul_comm (m / 2 ^ k), Nat.xor_comm, hjoin _ _ _ (Nat.mod_lt _ (Nat.two_pow_pos _))]
        exact (Nat.div_add_mod m (2 ^ k)).symm
      have b1 : (m % 2 ^ k) * 2 ^ (128 - k) < 2 ^ 128 := by
        have h2 : m % 2 ^ k < 2 ^ k := Nat.mod_lt _ (Nat.two_pow_pos _)
        have := Nat.mul_lt_mul_of_pos_right h2 (Nat.two_pow_pos (128 - k))
        rw [← Nat.pow_add, show k + (128 - k) = 128 from by omega] at this
        exact this
      have e3 : m / 2 ^ k < 2 := by rw [Nat.div_lt_iff_lt_mul (Nat.two_pow_pos _), Nat.mul_comm, ← Nat.pow_succ]; exact hm
      rw [e]
      refine hA _ _ (qx_lt b1) (hbit_lt e3 (by decide)) (hX _ b1 (ih _ (Nat.mod_lt _ (Nat.two_pow_pos _)) (by omega))) ?_
      obtain ⟨t, ht⟩ : ∃ t, t = m / 2 ^ k := ⟨_, rfl⟩
      rw [← ht] at e3 ⊢
      rcases (show t = 0 ∨ t = 1 by omega) with q | q
      · rw [q, Nat.zero_mul]; exact h0
      · rw [q, Nat.one_mul]; exact h1
  intro c hc
  have := key 128 c hc (Nat.le_refl _)
  simpa using this

theorem hmul_qx_l {p : Nat} (hp : p < 2 ^ 128) : ∀ q, q < 2 ^ 128 → hmul (qx p) q = qx (hmul p q) := by
  refine hind _ ?_ ?_ ?_ ?_
  · rw [hmul_zero, hmul_zero]; rfl
  · rw [hmul_one (qx_lt hp), hmul_one hp]
  · intro a ha h; rw [hmul_qx_r, hmul_qx_r, h]
  · intro a b ha hb h1 h2; rw [hmul_xor_r, hmul_xor_r, h1, h2, qx_xor]
theorem hmul_comm {p : Nat} (hp : p < 2 ^ 128) : ∀ q, q < 2 ^ 128 → hmul p q = hmul q p := by
  refine hind _ ?_ ?_ ?_ ?_
  · rw [hmul_zero, zero_hmul]
  · rw [hmul_one hp, one_hmul]
  · intro a ha h; rw [hmul_qx_r, hmul_qx_l ha _ hp, h]
  · intro a b ha hb h1 h2; rw [hmul_xor_r, hmul_xor_l, h1, h2]
theorem hmul_assoc {a b : Nat} (ha : a < 2 ^ 128) (hb : b < 2 ^ 128) : ∀ c, c < 2 ^ 128 → hmul (hmul a b) c = hmul a (hmul b c) := by
  refine hind _ ?_ ?_ ?_ ?_
  · rw [hmul_zero, hmul_zero, hmul_zero]
  · rw [hmul_one (hmul_lt _ hb), hmul_one hb]
  · intro c hc h; rw [hmul_qx_r, hmul_qx_r, hmul_qx_r, h]
  · intro c d hc hd h1 h2; rw [hmul_xor_r, hmul_xor_r, hmul_xor_r, h1, h2]

/- ONE POWER OF TWO AFTER ANOTHER. -/
def hsq (a : Nat) : Nat := hmul a a
def fr : Nat → Nat → Nat
  | 0, a => a
  | k + 1, a => hsq (fr k a)
theorem hsq_lt {a : Nat} (ha : a < 2 ^ 128) : hsq a < 2 ^ 128 := hmul_lt _ ha
theorem fr_lt {a : Nat} (ha : a < 2 ^ 128) : ∀ k, fr k a < 2 ^ 128
  | 0 => ha
  | k + 1 => hsq_lt (fr_lt ha k)
theorem hsq_xor {a b : Nat} (ha : a < 2 ^ 128) (hb : b < 2 ^ 128) : hsq (a ^^^ b) = hsq a ^^^ hsq b := by
  unfold hsq
  rw [hmul_xor_l, hmul_xor_r, hmul_xor_r, hmul_comm hb a ha]
  have : ∀ x y z : Nat, (x ^^^ y) ^^^ (y ^^^ z) = x ^^^ z := fun x y z => by
    rw [Nat.xor_assoc, ← Nat.xor_assoc y y z, Nat.xor_self, Nat.zero_xor]
  rw [this]
theorem hsq_mul {a b : Nat} (ha : a < 2 ^ 128) (hb : b < 2 ^ 128) : hsq (hmul a b) = hmul (hsq a) (hsq b) := by
  unfold hsq
  rw [hmul_assoc ha hb _ (hmul_lt _ hb), ← hmul_assoc hb ha b hb, hmul_comm hb a ha, hmul_assoc ha hb b hb, ← hmul_assoc ha ha _ (hmul_lt _ hb)]
theorem fr_xor {a b : Nat} (ha : a < 2 ^ 128) (hb : b < 2 ^ 128) : ∀ k, fr k (a ^^^ b) = fr k a ^^^ fr k b
  | 0 => rfl
  | k + 1 => by rw [fr, fr, fr, fr_xor ha hb k, hsq_xor (fr_lt ha k) (fr_lt hb k)]
theorem fr_mul {a b : Nat} (ha : a < 2 ^ 128) (hb : b < 2 ^ 128) : ∀ k, fr k (hmul a b) = hmul (fr k a) (fr k b)
  | 0 => rfl
  | k + 1 => by rw [fr, fr, fr, fr_mul ha hb k, hsq_mul (fr_lt ha k) (fr_lt hb k)]
theorem fr_zero : ∀ k, fr k 0 = 0
  | 0 => rfl
  | k + 1 => by rw [fr, fr_zero k]; exact hmul_zero 0
theorem fr_one : ∀ k, fr k hOne = hOne
  | 0 => rfl
  | k + 1 => by rw [fr, fr_one k]; exact one_hmul _
theorem fr_x : fr 128 (2 ^ 126) = 2 ^ 126 := by decide +kernel
theorem qx_as {a : Nat} (ha : a < 2 ^ 128) : qx a = hmul (2 ^ 126) a := by
  have := hmul_qx_l (p := hOne) (by decide) a ha
  rw [one_hmul] at this
  rw [← this]
  rfl
theorem fr_all : ∀ a, a < 2 ^ 128 → fr 128 a = a := by
  refine hind _ (fr_zero _) (fr_one _) ?_ ?_
  · intro a ha h; rw [qx_as ha, fr_mul (by decide) ha, fr_x, h]
  · intro a b ha hb h1 h2; rw [fr_xor ha hb, h1, h2]

/-- a to the power of 2^k - 1 -/
def prk (a : Nat) : Nat → Nat
  | 0 => hOne
  | k + 1 => hmul (prk a k) (fr k a)
theorem prk_lt {a : Nat} (ha : a < 2 ^ 128) : ∀ k, prk a k < 2 ^ 128
  | 0 => (by decide : hOne < 2 ^ 128)
  | k + 1 => hmul_lt _ (fr_lt ha k)
theorem mul_prk {a : Nat} (ha : a < 2 ^ 128) : ∀ k, hmul a (prk a k) = fr k a
  | 0 => hmul_one ha
  | k + 1 => by rw [prk, ← hmul_assoc ha (prk_lt ha k) _ (fr_lt ha k), mul_prk ha k]; rfl
theorem prk_divides {a : Nat} (ha : a < 2 ^ 128) : ∀ k, ∃ d, d < 2 ^ 128 ∧ prk a (k + 1) = hmul a d
  | 0 => ⟨hOne, by decide, by rw [prk, prk, one_hmul, hmul_one ha]; rfl⟩
  | k + 1 => by
    obtain ⟨d, hd, h⟩ := prk_divides ha k
    exact ⟨hmul d (fr (k + 1) a), hmul_lt _ (fr_lt ha _), by rw [prk, h, hmul_assoc ha hd _ (fr_lt ha _)]⟩

/- WHAT IS ITS OWN SQUARE IS 0 OR 1: by a linear map that takes e*e xor e back to e. -/
def hTab : List Nat := [0, 6161591008139076202154902373133594561, 71430717218983613641036104277415506289, 87518597585245962833849474628053070758, 72921817864677867521778898634038080609, 163309321578052146879237778733101511783, 126814247099887467207929949960147586332, 133487668004820722767044853458355047125, 108887185710678174598840578861931466132, 72978216601350599296199603180564021825, 126976600203468727039316187211004055892, 49689517519420395515082114066310337331, 12764899024296983899235621676887115841, 59792954277794326371429463258526948146, 275464514806027128612938827324864, 33882886127255646541338116557250298163, 133385434108064708788808215410435911893, 153238470225796905537047657204766862374, 127777348636302309636952298273557535380, 58594334107495617071392172125656399538, 5725366257701666555538562805218717057, 159324042485362592547018579093184240551, 149021274876537960721224429182834492454, 94333773739946854309780815578084996199, 161752945482599484730126084874801441767, 115575792119390728221592460023876181333, 133436244703473040169882794575366898389, 34751610155981195849944733847405496627, 100972845268357601278728964017462078439, 44935323831972008745566419208193456946, 132003651752985294974180122299820886164, 45594221442569777339127844318073854322, 100983558286137050684044238585428660711, 140308235276559149970208740923126577813, 92325303522414418149753570460923091879, 26944628100264108509229864938392397555, 81071795988965022717357904530596407232, 58275656592719279154056000246173111091, 51613027339492204128265575524803459891, 142140898696765075202304690604976981845, 53639910565545342273528145980335791795, 4726979706490419237355323591502507968, 161542955870533464563010084267448332775, 65334779303751560239471195525024588352, 122557457634345817322758110469731963540, 79569572988994598121356082874814992321, 9537274821874957483351388617584152641, 109427184872331881977228478262674814292, 96504253903287235160744645914913229863, 35809052500294759256374056413191545715, 63089105448741488643398279942380763954, 84108490886122099842324906724524496768, 161537358671016203777973217828391545831, 49921000058860506912943830473554996979, 113870918609522322281985099445019275925, 45994406431766860863727072382817147250, 6116654749483988959971426010360459777, 88394181539591460295416373139500891046, 93226277353508642900164249188457535015, 123506241354959402090274531190302866772, 72992884249465865451566362034747193217, 123492369307601207700488716387690115284, 67288019353279926038130604499846823936, 96617416833907240315124182200439430055, 6161591008139076220601646446843146177, 87518597585245962796955986480633967526, 163309321578052146805450802438263305319, 133487668004820722619470900868678634197, 72978216601350599591347508359916847681, 49689517519420396105377924425015989043, 59792954277794325190837842541115644722, 33882886127255648902521357992072905011, 153238470225796900814681174335121648678, 58594334107495626516125137864946826930, 159324042485362573657552647614603385767, 94333773739946892088712678535246705767, 115575792119390803779456185938199600469, 34751610155981346965672185676052334899, 44935323831971706514111515550899780402, 45594221442570381802037651632661207410, 140308235276560358896028355552301283989, 26944628100266526360869094196741809907, 58275656592714443450777541729474286387, 142140898696755403795747773571579332437, 4726979706471076424241489524707209152, 65334779303712874613243527391433990720, 79569572989071969373811419141996187585, 109427184872177139472317805728312423764, 35809052500604244266195401481916326771, 84108490886741069861967596861974058880, 49921000057622566873658450198655872755, 45994406429290980785156311833018898802, 88394181544543220452557894239097387942, 123506241345055881775991488991109872980, 123492369287794167071922631989304127700, 96617416873521321572256350997211405223, 87518597506017800282691648887090017190, 133487668163277047647999576055766534869, 49689517202507746048320574050840187699, 33882886761080949016636058740424507699, 58594332839845026287895736368243621554, 94333771204645691632253875541840295015, 34751615226583747878589791662865156403, 45594211301365579976202439659035564402, 26944648382676130012539518143993095923, 142140858131936196492406925677076760405, 65334698174074460006561831602428846656, 109427022612900310258954414150302135636, 84108166368187411435240813705953482624, 45993757392183663931702745520977746290, 123504943270841248069084356367027567956, 96614820725092054158442085749046795175, 133492860460135582475628106552095754965, 33893271354798018671893119733082947891, 94354540392079830942767997527157175399, 45552672926497301355174195688401803634, 142223934881672753734463413618344281941, 109593176112373424743067390032837178708, 46326064391129892899928697286047832434, 95950206727199596221990182218906622887, 32564043359013102798989312672802603315, 42894216934927469609366581567841114482, 114910088095513088234682618273958557012, 85316382760920269238759725736663866279, 64161864867486123575827494532326627698, 127851678626037577171681551665634892711, 42781086895802961305837899807692839847, 22349210433241643211303706255459310228]
def hlin : List Nat → Nat → Nat
  | [], _ => 0
  | l :: r, y => (y % 2) * l ^^^ hlin r (y / 2)
theorem hlin_xor : ∀ (l : List Nat) (x y : Nat), hlin l (x ^^^ y) = hlin l x ^^^ hlin l y
  | [], _, _ => (Nat.xor_self 0).symm
  | c :: r, x, y => by
    have e1 : (x ^^^ y) / 2 = x / 2 ^^^ y / 2 := Nat.xor_div_two_pow (n := 1)
    have e2 : (x ^^^ y) % 2 = x % 2 ^^^ y % 2 := Nat.xor_mod_two_pow (n := 1)
    simp only [hlin]
    rw [e1, e2, hbit_l (by omega) (by omega), hlin_xor r]
    ac_rfl
theorem bits_ind (p : Nat → Prop) (h0 : p 0) (hA : ∀ a b, a < 2 ^ 128 → b < 2 ^ 128 → p a → p b → p (a ^^^ b)) (hB : ∀ i, i < 128 → p (2 ^ i)) : ∀ k, k ≤ 128 → ∀ c, c < 2 ^ k → p c
  | 0, _, c, hc => by obtain rfl : c = 0 := by simpa using hc
                      exact h0
  | k + 1, hk, c, hc => by
    have h2 : c % 2 ^ k < 2 ^ k := Nat.mod_lt _ (Nat.two_pow_pos _)
    have ih := bits_ind p h0 hA hB k (by omega) _ h2
    have e3 : c / 2 ^ k < 2 := by rw [Nat.div_lt_iff_lt_mul (Nat.two_pow_pos _), Nat.mul_comm, ← Nat.pow_succ]; exact hc
    have hle : 2 ^ k < 2 ^ 128 := Nat.pow_lt_pow_right (by omega) (by omega)
    have h3 : c = 2 ^ k * (c / 2 ^ k) ^^^ c % 2 ^ k := by
      rw [hjoin _ _ _ h2]
      exact (Nat.div_add_mod c (2 ^ k)).symm
    rw [h3]
    have hb := hB k (by omega)
    generalize c / 2 ^ k = t at *
    match t, e3 with
    | 0, _ => rw [Nat.mul_zero, Nat.zero_xor]; exact ih
    | 1, _ => rw [Nat.mul_one]; exact hA _ _ hle (by omega) hb ih

theorem idem_tab : (List.range 128).all (fun i => hlin hTab (hsq (2 ^ i) ^^^ 2 ^ i) == 2 ^ i % 2 ^ 127) = true := by decide +kernel
theorem idem_lin : ∀ e, e < 2 ^ 128 → hlin hTab (hsq e ^^^ e) = e % 2 ^ 127 := by
  refine bits_ind _ (by decide +kernel) ?_ ?_ 128 (Nat.le_refl _)
  · intro a b ha hb h1 h2
    rw [hsq_xor ha hb, Nat.xor_mod_two_pow, ← h1, ← h2, ← hlin_xor]
    congr 1
    ac_rfl
  · intro i hi
    have := List.all_eq_true.1 idem_tab i (List.mem_range.2 hi)
    simpa using this
theorem hlin_zero : hlin hTab 0 = 0 := by decide +kernel
theorem idem {e : Nat} (he : e < 2 ^ 128) (h : hsq e = e) : e = 0 ∨ e = hOne := by
  have := idem_lin e he
  rw [h, Nat.xor_self, hlin_zero] at this
  unfold hOne
  omega

theorem hmul_eq_zero {a b : Nat} (ha : a < 2 ^ 128) (hb : b < 2 ^ 128) : hmul a b = 0 ↔ a = 0 ∨ b = 0 := by
  constructor
  · intro h
    have h1 : hmul a (prk a 128) = a := by rw [mul_prk ha, fr_all a ha]
    obtain ⟨d, hd, h2⟩ := prk_divides ha 127
    have he := prk_lt ha 128
    have hid : hsq (prk a 128) = prk a 128 := by
      unfold hsq
      have : hmul (hmul a d) (prk a 128) = hmul a d := by
        rw [hmul_assoc ha hd _ he, hmul_comm hd _ he, ← hmul_assoc ha he _ hd, h1]
      rw [← h2] at this
      exact this
    rcases idem he hid with e | e
    · left; rw [← h1, e, hmul_zero]
    · right
      have h3 : hmul a d = hOne := by rw [← h2, e]
      rw [← one_hmul b, ← h3, hmul_comm ha d hd, hmul_assoc hd ha b hb, h, hmul_zero]
  · rintro (rfl | rfl)
    · exact zero_hmul _
    · exact hmul_zero _

end Go.Proofs.YtmomfbkpniblgaaGreatDoor

namespace Go.Proofs.YtmomfbkpniblgaaGreatDoor
open Go.RowKit
set_option linter.unusedVariables false

theorem gm_b0 : ∀ (f n a : Nat), gm f n a 0 = n
  | 0, n, a => rfl
  | f + 1, n, a => by simp only [gm]; simpa using gm_b0 f n (gx a)

theorem u8_step_n {n a b : Nat} (hn : n < 256) (ha : a < 256) (hb : b < 256) :
    bits .xor .u8 (n : Int) ((a : Int) * bits .and .u8 (b : Int) 1 % 256) = ((n ^^^ (a * (b &&& 1)) : Nat) : Int) := by
  have h1 := and_one_lt b
  have h2 : a * (b &&& 1) < 256 := by
    generalize b &&& 1 = t at *
    match t, h1 with
    | 0, _ => simp
    | 1, _ => simpa using ha
  rw [show (1 : Int) = ((1 : Nat) : Int) from rfl, u8_and_nat b 1 hb (by omega), ← Int.natCast_mul]
  rw [show ((a * (b &&& 1) : Nat) : Int) % 256 = ((a * (b &&& 1) : Nat) : Int) from by omega, u8_xor_nat _ _ hn h2]

theorem u8_step_a {a : Nat} (ha : a < 256) :
    bits .xor .u8 ((a : Int) * 2 % 256) ((a : Int) / 128 * 27) = ((gx a : Nat) : Int) := by
  have e1 : (a : Int) * 2 % 256 = ((a * 2 % 256 : Nat) : Int) := by omega
  have e2 : (a : Int) / 128 * 27 = ((a / 128 * 27 : Nat) : Int) := by omega
  rw [e1, e2, u8_xor_nat _ _ (by omega) (by omega)]
  rfl

set_option maxHeartbeats 400000 in
theorem galois_mul (a b : Nat) (w : World) (ha : a < 256) (hb : b < 256) :
    Calls Tryz.prog 203 #[.int .u8 a, .int .u8 b] w fun e w' => e = .returned (.int .u8 (gmul a b)) ∧ w = w' := by
  go_enter Tryz.func203, Tryz.ntmps203
  go_wp2
  go_loop [0, 1, 5] (fun va vb vn => ∃ f n a' b' : Nat, f ≤ 8 ∧ n < 256 ∧ a' < 256 ∧ b' < 2 ^ f ∧ va = .int .u8 a' ∧ vb = .int .u8 b' ∧ vn = .int .u8 n ∧ Hid (gm f n a' b' = gmul a b)) (fun _ vb _ => (intOf vb).toNat)
  case atStart => exact ⟨8, 0, a, b, by omega, by omega, ha, hb, rfl, rfl, rfl, rfl⟩
  case round =>
    obtain ⟨f, n, a', b', hf, hn, ha', hb', rfl, rfl, rfl, HM⟩ := hrel
    clear ha hb
    have h256 : b' < 256 := Nat.lt_of_lt_of_le hb' (Nat.pow_le_pow_right (by omega) hf : 2 ^ f ≤ 2 ^ 8)
    by_cases h0 : 0 < b'
    · go_wp2
      go_round
      case rel =>
        cases f with
        | zero => exact absurd hb' (by simp; omega)
        | succ f =>
          have h2 : b' / 2 < 2 ^ f := by
            rw [Nat.pow_succ] at hb'; omega
          have h3 := and_one_lt b'
          have h4 : a' * (b' &&& 1) < 256 := by
            generalize b' &&& 1 = t at *
            match t, h3 with
            | 0, _ => simp
            | 1, _ => simpa using ha'
          exact ⟨f, n ^^^ (a' * (b' &&& 1)), gx a', b' / 2, by omega, xor_lt hn h4, gx_lt ha', h2, by rw [u8_step_a ha'], by simp, by rw [u8_step_n hn ha' h256], HM⟩
      case measure => simp [intOf]; omega
    · obtain rfl : b' = 0 := by omega
      go_wp2
      go_ret
      refine ⟨ret_int ?_, rfl⟩
      have := HM.out
      rw [gm_b0] at this
      rw [this]

theorem nlt {n : Nat} (h : n < 256) : (0 : Int) ≤ (n : Int) ∧ (n : Int) ≤ 255 := by omega

set_option maxHeartbeats 400000 in
theorem galois_inv (a : Nat) (w : World) (ha : a < 256) :
    Calls Tryz.prog 279 #[.int .u8 a] w fun e w' => e = .returned (.int .u8 (ginv a)) ∧ w = w' := by
  go_enter Tryz.func279, Tryz.ntmps279
  go_wp2
  go_loop [3, 4, 6] (fun vn vq vi => ∃ f n q k : Nat, f + k = 7 ∧ n < 256 ∧ q < 256 ∧ vi = .int .i64 k ∧ vn = .int .u8 n ∧ vq = .int .u8 q ∧ Hid (gi f n q = ginv a)) (fun _ _ vi => 7 - (intOf vi).toNat)
  case atStart => exact ⟨7, 1, a, 0, by omega, by omega, ha, rfl, rfl, rfl, rfl⟩
  case round =>
    obtain ⟨f, n, q, k, hf, hn, hq, rfl, rfl, rfl, HM⟩ := hrel
    have hq2 := gmul_lt hq q
    by_cases hk : k < 7
    · go_wp2_with fail
      refine (galois_mul q q _ hq hq).mono ?_
      rintro e w' ⟨rfl, rfl⟩
      generalize hg : gmul q q = q2 at *
      have Hg := Lib.hid hg
      clear hg
      go_wp2_with fail
      refine (galois_mul n q2 _ hn hq2).mono ?_
      rintro e w' ⟨rfl, rfl⟩
      have hn2 := gmul_lt hn q2
      go_wp2_with fail
      go_round
      case rel =>
        cases f with
        | zero => omega
        | succ f => exact ⟨f, gmul n q2, q2, k + 1, by omega, hn2, hq2, by go_num, rfl, rfl, by have := HM.out; simp only [gi, Hg.out] at this; exact this⟩
      case measure => simp [intOf]; omega
    · obtain rfl : f = 0 := by omega
      go_wp2_with fail
      go_ret
      exact ⟨ret_int (by have := HM.out; simp only [gi] at this; rw [this]), rfl⟩

theorem rot8_val {a k : Nat} (ha : a < 256) (hk : k < 8) (X : Int) (hX : X = ((a * 2 ^ k % 256 : Nat) : Int)) (Y : Int) (hY : Y = ((a / 2 ^ (8 - k) : Nat) : Int)) :
    bits .or .u8 X Y = ((rotl8 a k : Nat) : Int) := by
  subst hX hY
  rw [u8_or_nat _ _ (Nat.mod_lt _ (by omega)) (Nat.lt_of_le_of_lt (Nat.div_le_self _ _) ha)]
  rfl

set_option maxHeartbeats 400000 in
theorem rot8_any (a : Nat) (k : Int) (w : World) (ha : a < 256) (hk : 0 < k) (hk8 : k < 8) :
    Calls Tryz.prog 280 #[.int .u8 a, .int .i64 k] w fun e w' => e = .returned (.int .u8 (rotl8 a k.toNat)) ∧ w = w' := by
  obtain ⟨n, rfl⟩ := Int.eq_ofNat_of_zero_le (show 0 ≤ k by omega)
  have e1 : bits .and .u64 ((n : Nat) : Int) 7 = (n : Int) := by
    rw [show (7 : Int) = ((7 : Nat) : Int) from rfl, u64_and_nat n 7 (by omega) (by omega), nat_mask3]
    omega
  have e2 : IntKind.u64.wrap (8 - (n : Int)) = 8 - (n : Int) := IntWalk.u64_in _ (by omega)
  have e3 : (n : Int) ≤ 8 := by omega
  have e4 : 8 - (n : Int) ≤ 8 := by omega
  have e5 : 0 ≤ 8 - (n : Int) := by omega
  go_enter Tryz.func280, Tryz.ntmps280
  go_wp2
  go_ret
  refine ⟨ret_int ?_, rfl⟩
  refine rot8_val ha (by omega) _ ?_ _ ?_
  · simp
  · simp

/-- Sub's loop behind so many rounds -/
def gs (b : Nat) : Nat → Nat
  | 0 => b ^^^ 99
  | k + 1 => gs b k ^^^ rotl8 b (k + 1)

theorem gs_lt {b : Nat} (hb : b < 256) : ∀ k, gs b k < 256
  | 0 => xor_lt hb (by omega)
  | k + 1 => xor_lt (gs_lt hb k) (rotl8_lt hb)

set_option maxHeartbeats 400000 in
theorem galois_sub (a : Nat) (w : World) (ha : a < 256) :
    Calls Tryz.prog 253 #[.int .u8 a] w fun e w' => e = .returned (.int .u8 (gsub a)) ∧ w = w' := by
  have hfin : gsub a = gs (ginv a) 4 := rfl
  have HF := Lib.hid hfin
  clear hfin
  have hl := ginv_lt ha
  go_enter Tryz.func253, Tryz.ntmps253
  go_wp2_with fail
  refine (galois_inv a _ ha).mono ?_
  rintro e w' ⟨rfl, rfl⟩
  generalize ginv a = b at *
  have hx : bits .xor .u8 (b : Int) 99 = ((gs b 0 : Nat) : Int) := by rw [show (99 : Int) = ((99 : Nat) : Int) from rfl, u8_xor_nat _ _ hl (by omega)]; rfl
  go_wp2_with fail
  clear hx
  go_loop [4, 10] (fun vn vi => ∃ k : Nat, k ≤ 4 ∧ vi = .int .i64 k ∧ vn = .int .u8 (gs b k)) (fun _ vi => 4 - (intOf vi).toNat)
  case atStart => exact ⟨0, by omega, rfl, rfl⟩
  case round =>
    obtain ⟨k, hk, rfl, rfl⟩ := hrel
    have hg := gs_lt hl k
    have hg1 : bits .xor .u8 ((gs b k : Nat) : Int) ((rotl8 b (k + 1) : Nat) : Int) = ((gs b (k + 1) : Nat) : Int) := u8_xor_nat _ _ hg (rotl8_lt hl)
    by_cases h4 : k < 4
    · go_wp2_with fail
      refine (rot8_any b ((k : Int) + 1) _ hl (by omega) (by omega)).mono ?_
      rintro e w' ⟨rfl, rfl⟩
      rw [show ((k : Int) + 1).toNat = k + 1 from by omega]
      go_wp2_with fail
      go_round
      case rel => exact ⟨k + 1, by omega, by go_num, rfl⟩
      case measure => simp [intOf]; omega
    · obtain rfl : k = 4 := by omega
      go_wp2_with fail
      go_ret
      exact ⟨ret_int (by rw [HF.out]), rfl⟩

end Go.Proofs.YtmomfbkpniblgaaGreatDoor

namespace Go.Proofs.YtmomfbkpniblgaaGreatDoor
open Go.RowKit
set_option linter.unusedVariables false

theorem tmod_rest (n m : Int) (hm : 0 < m) : (if n.tmod m < 0 then n.tmod m + m else n.tmod m) = n % m := by
  have h1 := Int.tmod_eq_emod (a := n) (b := m)
  have h2 := Int.emod_nonneg n (b := m) (by omega)
  have h3 := Int.emod_lt_of_pos n hm
  by_cases hn : 0 ≤ n ∨ m ∣ n
  · rw [if_pos hn] at h1
    rw [if_neg (by omega)]; omega
  · rw [if_neg hn] at h1
    have : (m.natAbs : Int) = m := by omega
    have h4 : n % m ≠ 0 := fun h => hn (Or.inr (Int.dvd_of_emod_eq_zero h))
    rw [if_pos (by omega)]; omega

set_option maxHeartbeats 400000 in
theorem rest_any (n m : Int) (w : World) (hn0 : -9223372036854775808 ≤ n) (hn1 : n ≤ 9223372036854775807) (hm : 0 < m) (hm1 : m ≤ 9223372036854775807) :
    Calls Tryz.prog 9 #[.int .i64 n, .int .i64 m] w fun e w' => e = .returned (.int .i64 (n % m)) ∧ w = w' := by
  have hr := tmod_rest n m hm
  have b1 : n.tmod m < m := Int.tmod_lt_of_pos n hm
  have b2 : -m < n.tmod m := by
    have := Int.emod_nonneg n (b := m) (by omega)
    by_cases h : n.tmod m < 0
    · rw [if_pos h] at hr
      have h4 : n % m ≠ 0 := by
        intro h0
        rw [Int.tmod_eq_zero_of_dvd (Int.dvd_of_emod_eq_zero h0)] at h; omega
      omega
    · omega
  have HR := Lib.hid hr
  clear hr
  go_enter Tryz.func9, Tryz.ntmps9
  go_wp2
  all_goals
    go_ret
    refine ⟨ret_int ?_, rfl⟩
    have := HR.out
    first | rwa [if_pos (by assumption)] at this | rwa [if_neg (by omega)] at this

end Go.Proofs.YtmomfbkpniblgaaGreatDoor

namespace Go.Proofs.YtmomfbkpniblgaaGreatDoor
open Go.RowKit
set_option linter.unusedVariables false

theorem rest_nat (n : Int) (m : Nat) (M : Int) (hM : M = (m : Int)) (hn0 : -9223372036854775808 ≤ n) (hn1 : n ≤ 9223372036854775807) (hm : 0 < m) (hm1 : m ≤ 9223372036854775807) :
    ∃ r : Nat, r < m ∧ ∀ W : World, Calls Tryz.prog 9 #[.int .i64 n, .int .i64 M] W fun e w' => e = .returned (.int .i64 (r : Int)) ∧ W = w' := by
  subst hM
  refine ⟨(n % m).toNat, ?_, fun W => ?_⟩
  · have := Int.emod_lt_of_pos n (show (0 : Int) < m by omega)
    have := Int.emod_nonneg n (show (m : Int) ≠ 0 by omega)
    omega
  · have h := rest_any n m W hn0 hn1 (by omega) (by omega)
    have := Int.emod_nonneg n (show (m : Int) ≠ 0 by omega)
    rw [show (((n % (m : Int)).toNat : Nat) : Int) = n % (m : Int) from by omega]
    exact h
theorem wf_i64_of {n : Int} (h : (Lit.int .i64 n).wf = true) : -9223372036854775808 ≤ n ∧ n ≤ 9223372036854775807 := by
  simp only [Lit.wf, Bool.and_eq_true, decide_eq_true_eq] at h
  exact h

end Go.Proofs.YtmomfbkpniblgaaGreatDoor
