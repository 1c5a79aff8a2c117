/- stamp.Read: contracts. -/
import Derived.Test.YtcmncdaojmkfgaaGreatDoorQ02
import Derived.Test.YtcmncdaojmkfgaaGreatDoorR16
namespace Go.Proofs.YtcmncdaojmkfgaaGreatDoor
open Go.RowKit
set_option linter.unusedVariables false

theorem two_obj (w : World) (o1 o2 : Obj) : ((w.alloc o1).alloc o2).heap[w.heap.size]? = some o1 ∧ ((w.alloc o1).alloc o2).heap[w.heap.size + 1]? = some o2 := by
  refine ⟨obj_alloc (obj_new w o1), ?_⟩
  have := obj_new (w.alloc o1) o2
  have e : (w.alloc o1).heap.size = w.heap.size + 1 := by simp
  rw [e] at this
  exact this

/-- What Read makes of twelve bytes. -/
def stampSec (l : List UInt8) : Int := wrap64 (IntKind.u64.wrap ((bigN (l.take 8) : Int) - 4611686018427387904))
def stampNano (l : List UInt8) : Int := wrap64 (bigN ((l.drop 8).take 4) : Int)

set_option maxHeartbeats 400000 in
theorem stamp_read_short (w : World) (l : List UInt8) (h : l.length < 12) : Calls Tryz.prog 25 #[S l] w fun e w' => e = .returned (.tuple #[.agg #[.int .i64 0, .int .i64 0], .int .i64 4]) ∧ w.grownBy w' none := by
  unfold S
  go_enter Tryz.func25, Tryz.ntmps25
  go_wp2_with fail
  go_returns
  exact ⟨rfl, grow_alloc (grow_refl _ _) _⟩

def t0 : Value := .tuple #[.agg #[.int .i64 0, .int .i64 0], .int .i64 5]
def t1 (l : List UInt8) : Value := .tuple #[.agg #[.int .i64 (stampSec l), .int .i64 (stampNano l)], .int .i64 0]

set_option maxHeartbeats 1000000 in
theorem stamp_read_long (w : World) (l : List UInt8) (h : 12 < l.length) (hl : l.length ≤ 9223372036854775807) : Calls Tryz.prog 25 #[S l] w fun e w' => e = .returned t0 ∧ w.grownBy w' none := by
  have i0 : (12 : Int) ≤ (l.length : Int) := by omega
  have i1 : (8 : Int) ≤ (l.length : Int) := by omega
  unfold S
  go_enter Tryz.func25, Tryz.ntmps25
  go_wp2_with fail
  go_region_with
    (first
      | (go_at_call 47; (refine (wire_big_any _ _ ?_).mono ?_); (simp [ByteArray.size]; try omega); rintro e x2 ⟨rfl, rfl⟩))
  all_goals
    go_wp2_with fail
    go_returns
    exact ⟨rfl, by repeat (first | exact grow_refl _ _ | apply grow_drew | apply grow_setCell_new _ _ (by simp) | apply grow_alloc)⟩

set_option maxHeartbeats 1000000 in
theorem stamp_read_12 (w : World) (l : List UInt8) (h : l.length = 12) : Calls Tryz.prog 25 #[S l] w fun e w' =>
      e = .returned (if isT (stampSec l) (stampNano l) = true then t1 l else t0) ∧ w.grownBy w' none := by
  have i0 : (12 : Int) ≤ (l.length : Int) := by omega
  have i1 : (8 : Int) ≤ (l.length : Int) := by omega
  have i2 : (l.length : Int) ≤ 12 := by omega
  have i3 : ¬ l.length < 12 := by omega
  clear h
  unfold S
  have hs : ∃ s, s = stampSec l := ⟨_, rfl⟩
  have hn : ∃ n, n = stampNano l := ⟨_, rfl⟩
  obtain ⟨s, hs⟩ := hs
  obtain ⟨n, hn⟩ := hn
  have HS := Lib.hid hs
  have HN := Lib.hid hn
  rw [← hs, ← hn]
  clear hs hn
  cases hT : isT s n
  all_goals
    have HT := Lib.hid hT
    clear hT
    go_enter Tryz.func25, Tryz.ntmps25
    go_wp2_with fail
  all_goals
    go_region_with
      (first
        | (go_at_call 47; (refine (wire_big_any _ _ ?_).mono ?_); (simp [ByteArray.size]; try omega); rintro e x2 ⟨rfl, rfl⟩))
  all_goals
    go_wp2_with fail
    refine (stamp_isTime _ _ _).mono ?_
    rintro e x3 ⟨rfl, hg3⟩
    have eT := HT.out
    rw [HS.out, HN.out] at eT
    unfold stampSec stampNano at eT
    rw [eT]
    have ob := two_obj w (.cells #[.int .i64 0, .int .i64 0] 32) (.cells #[.int .i64 (wrap64 (IntKind.u64.wrap ((bigN (l.take 8) : Int) - 4611686018427387904))), .int .i64 (wrap64 (bigN ((l.drop 8).take 4) : Int))] 32)
    have o1 := grow_obj (k := w.heap.size) hg3 ob.1 (by simp)
    have o2 := grow_obj (k := w.heap.size + 1) hg3 ob.2 (by simp)
    have c0 : x3.cell? ⟨w.heap.size, 0, none⟩ = some (.int .i64 0) := by rw [obj_cell o1]; rfl
    have c1 : x3.cell? ⟨w.heap.size, 1, none⟩ = some (.int .i64 0) := by rw [obj_cell o1]; rfl
    have c2 : x3.cell? ⟨w.heap.size + 1, 0, none⟩ = some (.int .i64 (wrap64 (IntKind.u64.wrap ((bigN (l.take 8) : Int) - 4611686018427387904)))) := by rw [obj_cell o2]; rfl
    have c3 : x3.cell? ⟨w.heap.size + 1, 1, none⟩ = some (.int .i64 (wrap64 (bigN ((l.drop 8).take 4) : Int))) := by rw [obj_cell o2]; rfl
    have f0 := obj_frozen o1 0
    have f1 := obj_frozen o1 1
    have f2 := obj_frozen o2 0
    have f3 := obj_frozen o2 1
    have q0 : ∀ v, (x3.setCell ⟨w.heap.size, 0, none⟩ v).cell? ⟨w.heap.size, 0, none⟩ = some v := fun v => by rw [obj_cell (obj_setCell o1 0 v)]; rfl
    have q1 : ∀ u v, ((x3.setCell ⟨w.heap.size, 0, none⟩ u).setCell ⟨w.heap.size, 1, none⟩ v).cell? ⟨w.heap.size, 1, none⟩ = some v := fun u v => by rw [obj_cell (obj_setCell (obj_setCell o1 0 u) 1 v)]; rfl
    have q2 : ∀ u v, ((x3.setCell ⟨w.heap.size, 0, none⟩ u).setCell ⟨w.heap.size, 1, none⟩ v).cell? ⟨w.heap.size, 0, none⟩ = some u := fun u v => by rw [obj_cell (obj_setCell (obj_setCell o1 0 u) 1 v)]; rfl
    have hG : w.grownBy x3 none := grow_trans (grow_drew (grow_alloc (grow_alloc (grow_refl _ _) _) _)) hg3
    clear ob o1 o2 eT hg3
    go_wp2_with fail
    have HQ0 := Lib.hid q0
    have HQ1 := Lib.hid q1
    have HQ2 := Lib.hid q2
    clear q0 q1 q2
    refine bodyPost_ret (by simp [results, Tryz.results25, go_sem, HQ1.out, HQ2.out]; try rfl) rfl ?_
    refine ⟨?_, grow_setCell_new (grow_setCell_new hG _ (by simp) _) _ (by simp) _⟩
    first
      | rfl
      | (rw [if_neg (by rw [HT.out]; simp)]; rfl)
      | (rw [if_pos HT.out, t1, ← HS.out, ← HN.out, HS.out, HN.out]; rfl)

end Go.Proofs.YtcmncdaojmkfgaaGreatDoor
