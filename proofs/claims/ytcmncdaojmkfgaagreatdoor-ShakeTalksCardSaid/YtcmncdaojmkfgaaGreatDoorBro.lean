/- A slice of bytes of the call's own, made of a string or by appends: it may be appended to. -/
import Derived.Test.YtcmncdaojmkfgaaGreatDoorQ02
import Derived.ArgAppend
namespace Go.Proofs.YtcmncdaojmkfgaaGreatDoor
open Go.RowKit
set_option linter.unusedVariables false

def bro (w : World) (base : Nat) (v : Value) (l : List UInt8) : Prop :=
  ∃ g cap, v = .slice (some ⟨g, 0, none⟩) l.length cap ∧ base ≤ g ∧ g < w.heap.size ∧ l.length ≤ cap ∧ cap ≤ maxLen ∧ Bys w g l ∧
    ∀ i, i < cap → (w.cell? ⟨g, i, none⟩).isSome = true ∧ w.frozen? ⟨g, i, none⟩ = false

theorem add_off (g i : Nat) : (⟨g, 0, none⟩ : Addr).add i = ⟨g, i, none⟩ := by unfold Addr.add; split <;> simp_all

theorem brow_bro {w : World} {base base' : Nat} {v : Value} {l : List UInt8} (h : brow w base' v l) (hb : base ≤ base') (hl : l ≠ []) : bro w base v l := by
  have h0 := h
  unfold brow at h
  rcases h.2 with ⟨_, hn⟩ | ⟨g, cap, cur, hv, hbg, hg, hnc, hcm, hcs, htake⟩
  · exact absurd (List.eq_nil_of_length_eq_zero hn) hl
  · subst hv
    refine ⟨g, cap, rfl, by omega, lt_of_obj hg, hnc, hcm, fun i hi => ⟨?_, obj_frozen hg i⟩, fun i hi => ⟨?_, obj_frozen hg i⟩⟩
    · have e1 : (l.map bcell)[i]? = some (bcell l[i]) := by simp [hi]
      have e2 := h.cells (g := g) rfl i _ e1
      rw [add_off] at e2
      exact e2
    · rw [obj_cell hg]
      have : i < cur.size := by omega
      simp [this]

theorem bro.kept {w w' : World} {base : Nat} {v : Value} {l : List UInt8} {r : Option Nat} (h : bro w base v l) (g : w.grownBy w' r) (hr : v.ownBlock ≠ r) : bro w' base v l := by
  obtain ⟨b, cap, hv, h1, h2, h3, h4, h5, h6⟩ := h
  have hb : some b ≠ r := by subst hv; exact hr
  refine ⟨b, cap, hv, h1, Nat.lt_of_lt_of_le h2 g.size, h3, h4, h5.kept h2 g hb, fun i hi => ?_⟩
  have e := g.block b h2 hb
  rw [World.cell?_of_block (a := ⟨b, i, none⟩) e, World.frozen?_of_block (a := ⟨b, i, none⟩) e]
  exact h6 i hi

theorem bro.drew {w : World} {base : Nat} {v : Value} {l : List UInt8} (h : bro w base v l) : bro w.drew base v l := h
theorem bro.alloc {w : World} {base : Nat} {v : Value} {l : List UInt8} (h : bro w base v l) (o : Obj) : bro (w.alloc o) base v l :=
  h.kept (r := none) (World.grownBy_alloc _ _ _) (by obtain ⟨b, cap, hv, _⟩ := h; subst hv; simp [Value.ownBlock])
theorem bro.mono {w : World} {base base' : Nat} {v : Value} {l : List UInt8} (h : bro w base' v l) (hb : base ≤ base') : bro w base v l := by
  obtain ⟨b, cap, hv, h1, h2⟩ := h
  exact ⟨b, cap, hv, by omega, h2⟩
theorem bro.own {w : World} {base : Nat} {v : Value} {l : List UInt8} (h : bro w base v l) : ∃ b, v.ownBlock = some b ∧ base ≤ b ∧ b < w.heap.size := by
  obtain ⟨b, cap, hv, h1, h2, _⟩ := h
  exact ⟨b, by rw [hv]; rfl, h1, h2⟩

theorem bro_append2 {w : World} {base : Nat} {v : Value} {l cs : List UInt8} (h : bro w base v l) (B c : Nat) (hB : ∀ j (hj : j < cs.length), w.cell? ⟨B, j, none⟩ = some (bcell cs[j])) (hroom : l.length + cs.length ≤ 140737488355328) (hbase : base ≤ w.heap.size) :
    ∃ v' w', (Builtin.append_ #[90, 90] 90 #[v, .slice (some ⟨B, 0, none⟩) cs.length c]).run Tryz.prog w = .ok v' w' ∧ bro w' base v' (l ++ cs) ∧ w.grownBy w' v.ownBlock ∧ (v'.ownBlock = v.ownBlock ∨ bro w' w.heap.size v' (l ++ cs)) := by
  obtain ⟨i0, hi, hz0, hz1, hz2⟩ := info_parts info_u8
  obtain ⟨g, cap, hv, h1, h2, h3, h4, h5, h6⟩ := h
  subst hv
  have hnews : ∀ (j : Nat) u, (cs.map bcell)[j]? = some u → w.cell? ((⟨B, 0, none⟩ : Addr).add j) = some u := by
    intro j u hu
    rw [add_off]
    by_cases hj : j < cs.length
    · rw [hB j hj]
      simp [hj] at hu
      rw [hu]
    · rw [List.getElem?_eq_none (by simpa using hj)] at hu
      cases hu
  have hone : ∀ u ∈ cs.map bcell, u.oneCell' = true := by
    intro u hu
    obtain ⟨b, _, rfl⟩ := List.mem_map.1 hu
    rfl
  by_cases hfit : l.length + cs.length ≤ cap
  · have hr := run_append_room_cells (P := Tryz.prog) w 90 90 5 i0 Tryz.underlying90 hi g 0 l.length cap ⟨B, 0, none⟩ cs.length c (cs.map bcell) (by simp [hz1]) hnews hone hfit
      (fun j hj => by rw [hz1, Nat.zero_add, Nat.mul_one]; exact (h6 _ (by simp at hj; omega)).1) (fun j hj => by rw [hz1, Nat.zero_add, Nat.mul_one]; exact (h6 _ (by simp at hj; omega)).2)
    rw [hz1, Nat.zero_add, Nat.mul_one] at hr
    refine ⟨_, _, hr, ⟨g, cap, by rw [List.length_append], h1, ?_, by rw [List.length_append]; exact hfit, h4, fun i hi => ⟨?_, ?_⟩, fun i hi => ⟨?_, ?_⟩⟩, grow_setCells g _ _ _ _ (grow_refl w _), Or.inl rfl⟩
    · exact Nat.lt_of_lt_of_le h2 (grow_setCells g (cs.map bcell) l.length w w (grow_refl w _)).size
    · by_cases q : i < l.length
      · rw [World.cell?_setCells_out g _ _ _ _ (fun _ _ => Or.inl q), (h5 i q).1, List.getElem_append_left q]
      · have hc := World.cell?_setCells_in g (cs.map bcell) l.length w (fun j hj => (h6 _ (by simp at hj; omega)).1) (i - l.length) (by rw [List.length_append] at hi; simp; omega)
        rw [show l.length + (i - l.length) = i from by omega] at hc
        rw [hc, List.getElem_append_right (by omega)]
        simp [bcell]
    · rw [World.frozen?_setCells]
      exact (h6 i (by rw [List.length_append] at hi; omega)).2
    · by_cases q : i < l.length ∨ l.length + cs.length ≤ i
      · rw [World.cell?_setCells_out g _ _ _ _ (fun _ _ => by simpa using q)]
        exact (h6 i hi).1
      · have hc := World.cell?_setCells_in g (cs.map bcell) l.length w (fun j hj => (h6 _ (by simp at hj; omega)).1) (i - l.length) (by simp; omega)
        rw [show l.length + (i - l.length) = i from by omega] at hc
        rw [hc]
        rfl
    · rw [World.frozen?_setCells]
      exact (h6 i hi).2
  · have holds : ∀ (j : Nat) u, (l.map bcell)[j]? = some u → w.cell? ((⟨g, 0, none⟩ : Addr).add j) = some u := by
      intro j u hu
      rw [add_off]
      by_cases hj : j < l.length
      · rw [h5.cell j hj]
        simp [hj, bcell] at hu
        rw [hu]
      · rw [List.getElem?_eq_none (by simpa using hj)] at hu
        cases hu
    obtain ⟨v', w', hr, hown, hg⟩ := run_append_arg_grows (P := Tryz.prog) w 90 90 5 i0 (.int .u8 0) 1 1 Tryz.underlying90 hi hz0 hz1 hz2 rfl (by omega) ⟨g, 0, none⟩ l.length cap (l.map bcell) (by simp) holds ⟨B, 0, none⟩ cs.length c (cs.map bcell) (by simp) hnews (by omega) (by unfold maxLen; omega) (by omega)
    have hb : ∀ bs, bs ≤ w.heap.size → bro w' bs v' (l ++ cs) := fun bs hbs => by
      refine brow_bro (base' := w.heap.size) ?_ hbs (by intro e; have : (l ++ cs).length = 0 := by rw [e]; rfl
                                                        rw [List.length_append] at this; omega)
      unfold brow
      rw [List.length_append, List.map_append]
      exact hown
    exact ⟨v', w', hr, hb base hbase, grow_none hg, Or.inr (hb _ (Nat.le_refl _))⟩
theorem bro_append {w : World} {base : Nat} {v : Value} {l cs : List UInt8} (h : bro w base v l) (B c : Nat) (hB : ∀ j (hj : j < cs.length), w.cell? ⟨B, j, none⟩ = some (bcell cs[j])) (hroom : l.length + cs.length ≤ 140737488355328) (hbase : base ≤ w.heap.size) :
    ∃ v' w', (Builtin.append_ #[90, 90] 90 #[v, .slice (some ⟨B, 0, none⟩) cs.length c]).run Tryz.prog w = .ok v' w' ∧ bro w' base v' (l ++ cs) ∧ w.grownBy w' v.ownBlock := by
  obtain ⟨v', w', h1, h2, h3, _⟩ := bro_append2 h B c hB hroom hbase
  exact ⟨v', w', h1, h2, h3⟩

theorem bro_app2 {w : World} {base : Nat} {v : Value} {l : List UInt8} (c : UInt8) (h : bro w base v l) (hroom : l.length + 1 ≤ 140737488355328) (hbase : base ≤ w.heap.size) :
    ∃ v' w', (Builtin.append_ #[90, 90] 90 #[v, .slice (some ⟨w.heap.size, 0, none⟩) 1 1]).run Tryz.prog (w.alloc (.cells #[.int .u8 (c.toNat : Int)] 5)) = .ok v' w' ∧ bro w' base v' (l ++ [c]) ∧ w.grownBy w' v.ownBlock ∧ (v'.ownBlock = v.ownBlock ∨ bro w' w.heap.size v' (l ++ [c])) := by
  obtain ⟨v', w', hr, h1, h2, h3⟩ := bro_append2 (cs := [c]) (h.alloc (.cells #[.int .u8 (c.toNat : Int)] 5)) w.heap.size 1 (fun j hj => by
    obtain rfl : j = 0 := by simp at hj; omega
    rw [obj_cell (obj_new w _)]
    rfl) hroom (by simp; omega)
  exact ⟨v', w', hr, h1, grow_trans (World.grownBy_alloc _ _ _) h2, h3.imp id (fun k => k.mono (by simp))⟩

/-- One byte that the walk has laid in a new block. -/
theorem bro_app1 {w : World} {base : Nat} {v : Value} {l : List UInt8} (c : UInt8) (h : bro w base v l) (hroom : l.length + 1 ≤ 140737488355328) (hbase : base ≤ w.heap.size) :
    ∃ v' w', (Builtin.append_ #[90, 90] 90 #[v, .slice (some ⟨w.heap.size, 0, none⟩) 1 1]).run Tryz.prog (w.alloc (.cells #[.int .u8 (c.toNat : Int)] 5)) = .ok v' w' ∧ bro w' base v' (l ++ [c]) ∧ w.grownBy w' v.ownBlock := by
  obtain ⟨v', w', hr, h1, h2⟩ := bro_append (cs := [c]) (h.alloc (.cells #[.int .u8 (c.toNat : Int)] 5)) w.heap.size 1 (fun j hj => by
    obtain rfl : j = 0 := by simp at hj; omega
    rw [obj_cell (obj_new w _)]
    rfl) hroom (by simp; omega)
  exact ⟨v', w', hr, h1, grow_trans (World.grownBy_alloc _ _ _) h2⟩

/-- An append whose run is known: at a plain region's list. -/
theorem append_run {w : World} {ops : Array Oper} {rest : List Oper} {o : Oper} {a : Act} {Q : Exit → Act → World → Prop} (hgd : o.guard = none) (s x : Operand) (v u v' : Value) (w' : World)
    (hr : (Builtin.append_ #[90, 90] 90 #[v, u]).run Tryz.prog w = .ok v' w')
    (ho : o.op = .call { callee := .builtin .append, args := #[s, x], argTypes := #[90, 90] }) (hty : o.type = 90) (hs : a.eval s = v) (hx : a.eval x = u)
    (h : wpList Tryz.prog ops Q rest (a.put o.dst v') w') : wpList Tryz.prog ops Q (o :: rest) a w := by
  refine wpList_plain hgd fun K hK => ?_
  unfold Oper.wp execOp
  simp only [ho, hty, resolve, invoke, builtin, Sem.run_bind, Sem.run_pure, Result.andThen_ok, List.map_toArray, List.map_cons, List.map_nil, hs, hx, hr]
  exact hK _ _ h

theorem conv_bro {w : World} {base : Nat} {v : Value} {l : List UInt8} (h : bro w base v l) : (convert 90 9 v).run Tryz.prog w = .ok (.string ⟨l.toArray⟩) w := by
  obtain ⟨b, cap, hv, _, _, _, _, h5, _⟩ := h
  rw [hv]
  exact conv_bys h5 cap

/-- '[]byte(s)' -/
theorem to_bro (w : World) (l : List UInt8) (hl : l.length ≤ maxLen) :
    ∃ v w', (convert 9 90 (.string ⟨l.toArray⟩)).run Tryz.prog w = .ok v w' ∧ bro w' w.heap.size v l ∧ w.grownBy w' none := by
  have h := run_bytes_of_string (P := Tryz.prog) w 9 90 5 ⟨l.toArray⟩ Tryz.underlying9 Tryz.underlying90 Tryz.underlying5
  have hsz : (ByteArray.mk l.toArray).size = l.length := by simp [ByteArray.size]
  rw [hsz] at h
  have hge := grownCap_ge w l.length 0 5
  have hle := grownCap_le_maxLen w l.length 0 5 hl
  generalize grownCap w l.length 0 5 = cap at *
  have hrow : (bytesRow ⟨l.toArray⟩ cap).size = cap := by
    unfold bytesRow
    simp [ByteArray.size]
    omega
  have hnew : ∀ o : Obj, (w.drew.alloc o).heap[w.heap.size]? = some o := fun o => obj_new w.drew o
  have hfr : ∀ i, i < cap → (w.drew.alloc (.cells (bytesRow ⟨l.toArray⟩ cap) 5 ((bytesRow ⟨l.toArray⟩ cap).size, (bytesRow ⟨l.toArray⟩ cap).size + 1))).frozen? ⟨w.heap.size, i, none⟩ = false := by
    intro i hi
    unfold World.frozen?
    simp only [hnew, Bool.and_eq_false_iff, decide_eq_false_iff_not]
    left
    omega
  refine ⟨_, _, h, ⟨w.heap.size, cap, rfl, Nat.le_refl _, by simp, hge, hle, fun i hi => ⟨?_, hfr i (by omega)⟩, fun i hi => ⟨?_, hfr i hi⟩⟩, grow_alloc (grow_drew (grow_refl _ _)) _⟩
  · unfold World.cell?
    simp only [hnew]
    unfold bytesRow
    rw [Array.getElem?_append_left (by simpa using hi)]
    simp [hi]
  · unfold World.cell?
    simp only [hnew]
    simp [hrow, hi]

end Go.Proofs.YtcmncdaojmkfgaaGreatDoor
