/- 'l = append(l, x)' on a slice that the call itself made: one law for one element. -/
import Derived.Test.YtmomfbkpniblgaaGreatDoorBase
namespace Go.Proofs.YtmomfbkpniblgaaGreatDoor
open Go.RowKit
set_option linter.unusedVariables false

theorem cell_one (w : World) (u : Value) (t : TypeId) : ∀ (j : Nat) (v : Value), [u][j]? = some v → (w.alloc (.cells #[u] t)).cell? ((⟨w.heap.size, 0, none⟩ : Addr).add j) = some v := by
  intro j v hj
  match j, hj with
  | 0, hj =>
    simp at hj; subst hj
    rw [show (⟨w.heap.size, 0, none⟩ : Addr).add 0 = ⟨w.heap.size, 0, none⟩ from rfl, obj_cell (obj_new w _)]
    rfl

/-- 'out = append(out, x)', out nil or the call's own, x one value that the walk has laid in a new block. -/
theorem append_one {P : Program} {w : World} {ops : Array Oper} {rest : List Oper} {o : Oper} {a : Act} {Q : Exit → Act → World → Prop} (hgd : o.guard = none) (s x : Operand) (t : TypeId)
    (ho : o.op = .call { callee := .builtin .append, args := #[s, x], argTypes := #[t, t] })
    (base : Nat) (e : TypeId) (z : Value) (bytes : Nat) (ht : P.underlying t = some (.slice e)) (hinfo : (P.info? e).map (fun i => (i.zero, i.size, i.bytes)) = some (some z, 1, bytes))
    (hzs : z.cells.size = 1)
    (v : Value) (n : Nat) (xs : List Value) (hs : a.eval s = v) (hown : w.ownsRow base e 1 v n xs) (u : Value) (hu : u.oneCell' = true)
    (hx : a.eval x = .slice (some ⟨w.heap.size, 0, none⟩) 1 1) (hb : 0 < bytes) (hroom : (n + 1) * bytes ≤ 140737488355328) (hbase : base ≤ w.heap.size)
    (h : ∀ v' w', w'.ownsRow base e 1 v' (n + 1) (xs ++ [u]) → w.grownBy w' v.ownBlock → wpList P ops Q rest (a.put o.dst v') w') : wpList P ops Q (o :: rest) a (w.alloc (.cells #[u] e)) := by
  obtain ⟨i0, hi, hz0, hz1, hz2⟩ := info_parts hinfo
  have h63 : n + 1 ≤ maxLen := by
    have := Nat.le_mul_of_pos_right (n + 1) hb
    unfold maxLen; omega
  exact wpList_append_own _ hgd s x t ho base e i0 z 1 bytes ht hi hz0 hz1 hz2 hzs (by omega) v n xs hs (hown.alloc _) ⟨w.heap.size, 0, none⟩ 1 1 [u] hx rfl (cell_one w u e) (by simpa using hu) h63 hroom (by simp; omega)
    fun v' w' h1 h2 _ => h v' w' h1 (grow_trans (World.grownBy_alloc _ _ _) h2)

theorem cell_two (w : World) (u1 u2 : Value) (t : TypeId) : ∀ (j : Nat) (v : Value), [u1, u2][j]? = some v → (w.alloc (.cells #[u1, u2] t)).cell? ((⟨w.heap.size, 0, none⟩ : Addr).add j) = some v := by
  intro j v hj
  have e : (⟨w.heap.size, 0, none⟩ : Addr).add j = ⟨w.heap.size, j, none⟩ := by unfold Addr.add; split <;> simp_all
  rw [e, obj_cell (obj_new w _)]
  match j, hj with
  | 0, hj => exact hj
  | 1, hj => exact hj

/-- .. of two. -/
theorem append_two {P : Program} {w : World} {ops : Array Oper} {rest : List Oper} {o : Oper} {a : Act} {Q : Exit → Act → World → Prop} (hgd : o.guard = none) (s x : Operand) (t : TypeId)
    (ho : o.op = .call { callee := .builtin .append, args := #[s, x], argTypes := #[t, t] })
    (base : Nat) (e : TypeId) (z : Value) (bytes : Nat) (ht : P.underlying t = some (.slice e)) (hinfo : (P.info? e).map (fun i => (i.zero, i.size, i.bytes)) = some (some z, 1, bytes))
    (hzs : z.cells.size = 1)
    (v : Value) (n : Nat) (xs : List Value) (hs : a.eval s = v) (hown : w.ownsRow base e 1 v n xs) (u1 u2 : Value) (hu1 : u1.oneCell' = true) (hu2 : u2.oneCell' = true)
    (hx : a.eval x = .slice (some ⟨w.heap.size, 0, none⟩) 2 2) (hb : 0 < bytes) (hroom : (n + 2) * bytes ≤ 140737488355328) (hbase : base ≤ w.heap.size)
    (h : ∀ v' w', w'.ownsRow base e 1 v' (n + 2) (xs ++ [u1, u2]) → w.grownBy w' v.ownBlock → wpList P ops Q rest (a.put o.dst v') w') : wpList P ops Q (o :: rest) a (w.alloc (.cells #[u1, u2] e)) := by
  obtain ⟨i0, hi, hz0, hz1, hz2⟩ := info_parts hinfo
  have h63 : n + 2 ≤ maxLen := by
    have := Nat.le_mul_of_pos_right (n + 2) hb
    unfold maxLen; omega
  exact wpList_append_own _ hgd s x t ho base e i0 z 1 bytes ht hi hz0 hz1 hz2 hzs (by omega) v n xs hs (hown.alloc _) ⟨w.heap.size, 0, none⟩ 2 2 [u1, u2] hx rfl (cell_two w u1 u2 e) (by simp [hu1, hu2]) h63 hroom (by simp; omega)
    fun v' w' h1 h2 _ => h v' w' h1 (grow_trans (World.grownBy_alloc _ _ _) h2)

/-- The call's own slice is written: below its base all is as it was. -/
theorem own_below {w a b : World} {base : Nat} {e : TypeId} {size n : Nat} {v : Value} {xs : List Value} (HB : Below base w a) (hown : a.ownsRow base e size v n xs) (hb : base ≤ a.heap.size) (hg : a.grownBy b v.ownBlock) : Below base w b :=
  HB.trans (grow_below hg base hb fun k hk => (hown.lt k hk).1)

end Go.Proofs.YtmomfbkpniblgaaGreatDoor
