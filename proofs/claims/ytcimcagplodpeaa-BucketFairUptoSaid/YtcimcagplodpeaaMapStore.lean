/- A store at a key that is there, into the map that is ranged over. -/
import Derived.Maps.RangeWalk
import Derived.Maps.Ext
namespace Go.Proofs.Ytcimcagplodpeaa
open Go Go.ChangeMaps Go.MapKept Go.WideShapes
open Go.WideElems (Fit rd rg pl rd_key rd_val rg_of other_key)
open Go.Maps (Keyed)
set_option linter.unusedVariables false

variable {H : Type} {P : Program} {k : TypeId} {R : Value → Option (DataW H × List MemPlace)} {w : World} {b r n : Nat} {D : DataW H} {left : Lit → Bool} {cnt : Nat}

theorem fit_put_at {t e : TypeId} {es : Array MapEntry} {clock : Nat} (K : Keyed P k) (ht : P.underlying t = some (.map k e)) (hb : w.heap[b]? = some (.map es clock)) (F : Fit P k R es clock) (hroom : es.size < maxLen)
    {key val : Value} {kl : Lit} {yv : DataW H × List MemPlace} (hkey : keyOf P k key = some kl) (hv : R val = some yv) (hin : ∃ x ∈ es.toList, x.key = key) :
    ∃ (es' : Array MapEntry) (j : Nat) (e0 : MapEntry), (Instr.mapUpdate t (.map (some b)) key val).run P w = .ok () (setBlock w b (.map es' clock)) ∧ Fit P k R es' clock ∧
      (es'.toList.map (rg P k R)).foldr DataW.insert [] = putKey kl yv.1 ((es.toList.map (rg P k R)).foldr DataW.insert []) ∧ es.toList[j]? = some e0 ∧ e0.key = key ∧ es'.toList = es.toList.set j ⟨key, val, e0.born⟩ := by
  obtain ⟨es1, clock1, hrun, F1, hput, _⟩ := Maps.fit_store (R' := R) K ht hb F hroom (fun _ _ _ _ hz => hz) hkey hv
  rcases K.find w hkey es.toList F.keys with ⟨h1, h2⟩ | ⟨j, e0, h1, h2, h3⟩
  · obtain ⟨x, hx, hxk⟩ := hin
    exact absurd hxk (h2 x hx)
  · have hj : es[j]? = some e0 := by simpa using h2
    have hlist : (es.modify j (fun e' => { e' with key := key, val := val })).toList = es.toList.set j { e0 with key := key, val := val } := by rw [Array.toList_modify, modify_eq_set _ _ _ _ h2]
    have hrun2 : (Instr.mapUpdate t (.map (some b)) key val).run P w = .ok () (setBlock w b (.map (es.modify j (fun e' => { e' with key := key, val := val })) clock)) := by
      simp [Instr.mapUpdate, run_underlying ht, MapKept.run_getObj_map hb, K.check w false hkey, h1, hj, h3, K.stays w hkey, MapKept.run_setObj_map _ hb, Result.andThen, setBlock]
    have hw : setBlock w b (.map es1 clock1) = setBlock w b (.map (es.modify j (fun e' => { e' with key := key, val := val })) clock) := by
      rw [hrun] at hrun2
      injection hrun2
    have ho := heap_setBlock_same hb (.map es1 clock1)
    rw [hw, heap_setBlock_same hb] at ho
    injection ho with ho
    injection ho with ho1 ho2
    subst ho1 ho2
    exact ⟨_, j, e0, hrun2, F1, hput, h2, h3, hlist⟩

theorem left_size (a : Array MapEntry) (seen : Array Nat) : (leftOf a seen).size = ((a.toList.map (·.born)).filter fun x => !seen.contains x).length := by
  unfold leftOf
  rw [← Array.length_toList, Array.toList_filter, List.filter_map, List.length_map]
  rfl

/-- 'm[k] = v' IN THE ROUND, at a key that is there. -/
theorem ranges_store {t e : TypeId} (h : w.ranges P k R b r n D left cnt) (K : Keyed P k) (ht : P.underlying t = some (.map k e)) (hn : n < maxLen) {key val : Value} {kl : Lit} {d : DataW H} {ps : List MemPlace}
    (hkey : keyOf P k key = some kl) (hv : R val = some (d, ps)) (hin : Maps.has D kl = true) :
    ∃ w', (Instr.mapUpdate t (.map (some b)) key val).run P w = .ok () w' ∧ w'.ranges P k R b r n (D.put kl d) left cnt ∧ w.mapTurned w' b := by
  have hne := h.ne
  obtain ⟨es, clock, since, seen, c0, hb, F, hs, rfl, hr, hold, rfl, hl1, hl2, hsc, hsk⟩ := h
  have hin' : ∃ x ∈ es.toList, x.key = key := by
    obtain ⟨p, hp, hpk⟩ := List.any_eq_true.1 hin
    obtain ⟨x, hx, rfl⟩ := List.mem_map.1 (mem_sorted.1 hp)
    obtain ⟨y, hy⟩ := F.reads x hx
    refine ⟨x, hx, K.inj (rd_key hy) ?_⟩
    have e1 := WideAt.sameKey_eq hpk
    rw [rg_of hy] at e1
    rw [e1]
    exact hkey
  obtain ⟨es', j, e0, hrun, F', hput, hj, hjk, hset⟩ := fit_put_at K ht hb F (Nat.lt_of_le_of_lt hs hn) hkey hv hin'
  have hjl : j < es.toList.length := (List.getElem?_eq_some_iff.1 hj).1
  have hborn : es'.toList.map (·.born) = es.toList.map (·.born) := by
    rw [hset, List.map_set]
    apply List.ext_getElem?
    intro i
    rw [List.getElem?_set]
    split
    · rename_i e
      subst e
      rw [List.getElem?_map, hj]
      have : j < es.size := by simpa using hjl
      simp [this]
    · rfl
  have hsz : es'.size = es.size := by
    rw [← Array.length_toList, hset, List.length_set, Array.length_toList]
  have he0 : e0 ∈ es.toList := List.mem_of_getElem? hj
  have who : ∀ x ∈ es'.toList, x = ⟨key, val, e0.born⟩ ∨ x ∈ es.toList := by
    intro x hx
    rw [hset] at hx
    rcases List.mem_or_eq_of_mem_set hx with h | h
    · exact Or.inr h
    · exact Or.inl h
  have hnew : (⟨key, val, e0.born⟩ : MapEntry) ∈ es'.toList := by
    rw [hset]
    exact List.mem_set hjl _
  have rgN : (rg P k R ⟨key, val, e0.born⟩).1 = kl := by rw [rg_of (WideElems.rd_mk hkey hv)]
  have rg0 : (rg P k R e0).1 = kl := by
    obtain ⟨y, hy⟩ := F.reads e0 he0
    have m1 := rd_key hy
    rw [hjk, hkey] at m1
    rw [rg_of hy, ← Option.some.inj m1]
  refine ⟨_, hrun, ⟨es', clock, since, seen, c0, heap_setBlock_same hb _, F', by rw [hsz]; exact hs, by rw [DataW.put_eq, hput], (heap_setBlock_other hb _ hne).trans hr, ?_, ?_, ?_, ?_, hsc, hsk⟩, ⟨es, clock, es', clock, hb, rfl⟩⟩
  · intro x hx
    rcases who x hx with rfl | h
    · exact hold e0 he0
    · exact hold x h
  · rw [left_size, left_size, hborn]
  · intro x hx
    rcases who x hx with rfl | h
    · rw [rgN, ← rg0]
      exact hl1 e0 he0
    · exact hl1 x h
  · intro kl' hkl
    obtain ⟨x, hx, rfl⟩ := hl2 kl' hkl
    obtain ⟨i, hi⟩ := List.getElem?_of_mem hx
    by_cases hij : j = i
    · subst hij
      rw [hj] at hi
      cases hi
      exact ⟨_, hnew, by rw [rgN, rg0]⟩
    · refine ⟨x, ?_, rfl⟩
      rw [hset]
      exact List.mem_of_getElem? (i := i) (by rw [List.getElem?_set_ne hij]; exact hi)

theorem wpList_store_ranges {ops : Array Oper} {rest : List Oper} {o : Oper} {a : Act} {Q : Exit → Act → World → Prop} (hg : o.guard = none) (m x v : Operand) (t : TypeId) (hop : o.op = Op.mapUpdate t m x v)
    (k e : TypeId) (K : Keyed P k) (ht : P.underlying t = some (.map k e)) (R : Value → Option (DataW H × List MemPlace)) (b r n : Nat) (D : DataW H) (left : Lit → Bool) (cnt : Nat)
    (hm : a.eval m = .map (some b)) (h : w.ranges P k R b r n D left cnt) (hn : n < maxLen) (key val : Value) (kl : Lit) (hx : a.eval x = key) (hv : a.eval v = val) (hkey : keyOf P k key = some kl) (hin : Maps.has D kl = true)
    (d : DataW H) (ps : List MemPlace) (hval : R val = some (d, ps))
    (hK : ∀ w', w'.ranges P k R b r n (D.put kl d) left cnt → w.mapTurned w' b → wpList P ops Q rest (a.put o.dst undef) w') :
    wpList P ops Q (o :: rest) a w := by
  refine wpList_plain hg fun K' hK' => ?_
  obtain ⟨w', hrun, r1, r2⟩ := ranges_store h K ht hn hkey hval hin
  unfold Oper.wp
  simp [execOp, hop, hm, hx, hv, hrun, Result.andThen]
  exact hK' _ _ (hK w' r1 r2)

end Go.Proofs.Ytcimcagplodpeaa
