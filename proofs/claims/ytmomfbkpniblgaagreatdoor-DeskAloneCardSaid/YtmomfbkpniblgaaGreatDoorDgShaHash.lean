/- SHA-256: a sum under way: made, and written to. -/
import Derived.Test.YtmomfbkpniblgaaGreatDoorDgShaTaken
namespace Go.Proofs.YtmomfbkpniblgaaGreatDoor
open Go.RowKit
set_option linter.unusedVariables false

theorem shaI_small : Small32 shaI := by unfold Small32; decide +kernel
theorem iCells_eq : shaI.map c32 = [.int .u32 1779033703, .int .u32 3144134277, .int .u32 1013904242, .int .u32 2773480762, .int .u32 1359893119, .int .u32 2600822924, .int .u32 528734635, .int .u32 1541459225] := by simp only [shaI, c32, List.map_cons, List.map_nil, Int.cast_ofNat_Int]

theorem code_begun (w : World) : Calls Tryz.prog 264 #[] w (Grown (.agg #[.int .u32 1779033703, .int .u32 3144134277, .int .u32 1013904242, .int .u32 2773480762, .int .u32 1359893119, .int .u32 2600822924, .int .u32 528734635, .int .u32 1541459225]) w) := by
  go_enter Tryz.func264, Tryz.ntmps264
  go_wp2_with fail
  refine bodyPost_ret (v := .agg #[.int .u32 1779033703, .int .u32 3144134277, .int .u32 1013904242, .int .u32 2773480762, .int .u32 1359893119, .int .u32 2600822924, .int .u32 528734635, .int .u32 1541459225]) (by simp [results, Tryz.results264, go_sem]) rfl ?_
  exact ⟨rfl, grow_alloc (grow_refl w none) _⟩

/-- The block of a sum under way. -/
def HashIs (w : World) (P : Nat) (s : List Nat) (r : List UInt8) (m : Nat) : Prop := Blk w P 353 (s.map c32 ++ [S r, .int .u64 (m : Int)])
theorem HashIs.drew {w : World} {P : Nat} {s : List Nat} {r : List UInt8} {m : Nat} (h : HashIs w P s r m) : HashIs w.drew P s r m := h
theorem HashIs.kept {w w' : World} {P : Nat} {s : List Nat} {r : List UInt8} {m : Nat} {x : Option Nat} (h : HashIs w P s r m) (g : w.grownBy w' x) (hr : some P ≠ x) : HashIs w' P s r m := Blk.kept h g hr

def MadeIs (w : World) (e : Ending) (w' : World) : Prop := ∃ P, e = .returned (.pointer (some ⟨P, 0, none⟩)) ∧ HashIs w' P shaI [] 0 ∧ w.grownBy w' none ∧ w.heap.size ≤ P

theorem code_new (w : World) : Calls Tryz.prog 211 #[] w (MadeIs w) := by
  go_enter Tryz.func211, Tryz.ntmps211
  go_wp2_with fail
  (with_reducible refine (code_begun _).mono ?_)
  rintro e w1 ⟨rfl, hg⟩
  have hb : HashIs (w1.alloc (.cells #[.int .u32 1779033703, .int .u32 3144134277, .int .u32 1013904242, .int .u32 2773480762, .int .u32 1359893119, .int .u32 2600822924, .int .u32 528734635, .int .u32 1541459225, .string ⟨#[]⟩, .int .u64 0] 353)) w1.heap.size shaI [] 0 := by
    unfold HashIs
    rw [iCells_eq]
    exact obj_new _ _
  have HBH := Lib.hid hb
  have HG := Lib.hid hg
  clear hb hg
  go_wp2_with fail
  go_ret
  exact ⟨_, rfl, HBH.out, grow_alloc HG.out _, HG.out.size⟩

theorem HashIs.cells {w : World} {P : Nat} {a0 a1 a2 a3 a4 a5 a6 a7 : Nat} {r : List UInt8} {m : Nat} (h : HashIs w P [a0, a1, a2, a3, a4, a5, a6, a7] r m) :
    (w.cell? ⟨P, 0, none⟩ = some (.int .u32 (a0 : Int)) ∧ w.cell? ⟨P, 1, none⟩ = some (.int .u32 (a1 : Int)) ∧ w.cell? ⟨P, 2, none⟩ = some (.int .u32 (a2 : Int)) ∧ w.cell? ⟨P, 3, none⟩ = some (.int .u32 (a3 : Int)) ∧
    w.cell? ⟨P, 4, none⟩ = some (.int .u32 (a4 : Int)) ∧ w.cell? ⟨P, 5, none⟩ = some (.int .u32 (a5 : Int)) ∧ w.cell? ⟨P, 6, none⟩ = some (.int .u32 (a6 : Int)) ∧ w.cell? ⟨P, 7, none⟩ = some (.int .u32 (a7 : Int))) ∧
    w.cell? ⟨P, 8, none⟩ = some (.string ⟨r.toArray⟩) ∧ w.cell? ⟨P, 9, none⟩ = some (.int .u64 (m : Int)) :=
  ⟨⟨Blk.cell h 0, Blk.cell h 1, Blk.cell h 2, Blk.cell h 3, Blk.cell h 4, Blk.cell h 5, Blk.cell h 6, Blk.cell h 7⟩, Blk.cell h 8, Blk.cell h 9⟩
theorem HashIs.frozen {w : World} {P : Nat} {s : List Nat} {r : List UInt8} {m : Nat} (h : HashIs w P s r m) (i : Nat) : w.frozen? ⟨P, i, none⟩ = false := Blk.frozen h i
theorem HashIs.setMany {w : World} {P : Nat} {s : List Nat} {r : List UInt8} {m : Nat} (h : HashIs w P s r m) (hs : s.length = 8) (n : Nat) : HashIs (w.setCell ⟨P, 9, none⟩ (.int .u64 (n : Int))) P s r n := by
  obtain ⟨a0, a1, a2, a3, a4, a5, a6, a7, rfl⟩ := eight hs
  exact Blk.set h 9 _
theorem HashIs.setRest {w : World} {P : Nat} {s : List Nat} {r : List UInt8} {m : Nat} (h : HashIs w P s r m) (hs : s.length = 8) (u : List UInt8) : HashIs (w.setCell ⟨P, 8, none⟩ (.string ⟨u.toArray⟩)) P s u m := by
  obtain ⟨a0, a1, a2, a3, a4, a5, a6, a7, rfl⟩ := eight hs
  exact Blk.set h 8 _
theorem HashIs.set8 {w : World} {P : Nat} {s : List Nat} {r : List UInt8} {m : Nat} (h : HashIs w P s r m) (hs : s.length = 8) (b0 b1 b2 b3 b4 b5 b6 b7 : Nat) :
    HashIs ((((((((w.setCell ⟨P, 0, none⟩ (.int .u32 (b0 : Int))).setCell ⟨P, 1, none⟩ (.int .u32 (b1 : Int))).setCell ⟨P, 2, none⟩ (.int .u32 (b2 : Int))).setCell ⟨P, 3, none⟩ (.int .u32 (b3 : Int))).setCell ⟨P, 4, none⟩ (.int .u32 (b4 : Int))).setCell ⟨P, 5, none⟩ (.int .u32 (b5 : Int))).setCell ⟨P, 6, none⟩ (.int .u32 (b6 : Int))).setCell ⟨P, 7, none⟩ (.int .u32 (b7 : Int))) P [b0, b1, b2, b3, b4, b5, b6, b7] r m := by
  obtain ⟨a0, a1, a2, a3, a4, a5, a6, a7, rfl⟩ := eight hs
  exact Blk.set (Blk.set (Blk.set (Blk.set (Blk.set (Blk.set (Blk.set (Blk.set h 0 _) 1 _) 2 _) 3 _) 4 _) 5 _) 6 _) 7 _
theorem grow_set8 {a w : World} {P : Nat} (h : a.grownBy w (some P)) (v0 v1 v2 v3 v4 v5 v6 v7 : Value) : a.grownBy ((((((((w.setCell ⟨P, 0, none⟩ v0).setCell ⟨P, 1, none⟩ v1).setCell ⟨P, 2, none⟩ v2).setCell ⟨P, 3, none⟩ v3).setCell ⟨P, 4, none⟩ v4).setCell ⟨P, 5, none⟩ v5).setCell ⟨P, 6, none⟩ v6).setCell ⟨P, 7, none⟩ v7) (some P) :=
  grow_setCell (grow_setCell (grow_setCell (grow_setCell (grow_setCell (grow_setCell (grow_setCell (grow_setCell h _ _) _ _) _ _) _ _) _ _) _ _) _ _) _ _

def WroteIs (P : Nat) (s : List Nat) (r : List UInt8) (m : Nat) (w : World) (e : Ending) (w' : World) : Prop := e = .returned (.tuple #[]) ∧ HashIs w' P s r m ∧ w.grownBy w' (some P)
/-- What a write leaves to do. -/
def Doing (s : List Nat) (r : List UInt8) (X : List Nat × List UInt8) : Prop := ∃ f, r.length ≤ 64 * f ∧ absorb f s r = X
theorem Doing.more {s : List Nat} {r : List UInt8} {X : List Nat × List UInt8} (h : Doing s r X) (hr : 64 ≤ r.length) : Doing (takenL s (r.take 64)) (r.drop 64) X := by
  obtain ⟨f, h1, h2⟩ := h
  cases f with
  | zero => omega
  | succ f =>
    rw [absorb, if_pos hr] at h2
    exact ⟨f, by rw [List.length_drop]; omega, h2⟩
theorem Doing.done {s : List Nat} {r : List UInt8} {X : List Nat × List UInt8} (h : Doing s r X) (hr : ¬ 64 ≤ r.length) : X = (s, r) := by
  obtain ⟨f, h1, h2⟩ := h
  cases f with
  | zero => exact h2.symm
  | succ f =>
    rw [absorb, if_neg hr] at h2
    exact h2.symm
theorem takenL_small (s : List Nat) (b : List UInt8) : Small32 (takenL s b) := by
  intro x hx
  unfold takenL sumW at hx
  obtain ⟨i, hi, rfl⟩ := List.mem_iff_getElem.1 hx
  rw [List.getElem_zipWith]
  exact sadd_lt _ _

set_option maxRecDepth 20000 in
set_option maxHeartbeats 4000000 in
theorem code_write (w : World) (P : Nat) (s : List Nat) (r t : List UInt8) (m : Nat) (hP : HashIs w P s r m) (hs : s.length = 8) (hs2 : Small32 s) (hm : m < 18446744073709551616) (hl : r.length + t.length ≤ 9223372036854775807) :
    Calls Tryz.prog 212 #[.pointer (some ⟨P, 0, none⟩), S t] w (WroteIs P (absorb (r.length + t.length) s (r ++ t)).1 (absorb (r.length + t.length) s (r ++ t)).2 ((m + t.length) % 18446744073709551616) w) := by
  obtain ⟨n, hn⟩ : ∃ n, n = (m + t.length) % 18446744073709551616 := ⟨_, rfl⟩
  obtain ⟨u, hu⟩ : ∃ u, u = r ++ t := ⟨_, rfl⟩
  have hD : Doing s u (absorb (r.length + t.length) s (r ++ t)) := ⟨r.length + t.length, by rw [hu, List.length_append]; omega, by rw [hu]⟩
  rw [← hn]
  generalize absorb (r.length + t.length) s (r ++ t) = X at *
  have HD := Lib.hid hD
  have hP0 := hP
  obtain ⟨a0, a1, a2, a3, a4, a5, a6, a7, es⟩ := eight hs
  rw [es] at hP0
  obtain ⟨_, c8, c9⟩ := hP0.cells
  have f8 := hP.frozen 8
  have f9 := hP.frozen 9
  have h2 := (hP.setMany hs n).setRest hs u
  have hg2 := grow_setCell (grow_setCell (grow_refl w (some P)) 9 (.int .u64 (n : Int))) 8 (.string ⟨u.toArray⟩)
  have lu : u.length = r.length + t.length := by rw [hu, List.length_append]
  have e1 : IntKind.u64.wrap ((m : Int) + IntKind.u64.wrap (t.length : Int)) = (n : Int) := by rw [hn, IntKind.wrap_u64, IntKind.wrap_u64]; omega
  have e2 : ((m : Int) + (t.length : Int)) % 18446744073709551616 = (n : Int) := by rw [hn]; omega
  have e3 : IntKind.u64.wrap ((t.length : Int)) = (t.length : Int) := IntWalk.u64_in _ (by omega)
  have e4 : IntKind.u64.wrap ((m : Int) + (t.length : Int)) = (n : Int) := by rw [hn, IntKind.wrap_u64]; omega
  have H2 := Lib.hid h2
  have HG2 := Lib.hid hg2
  have HU := Lib.hid hu
  have HS := Lib.hid hs
  have HS2 := Lib.hid hs2
  have LU := Lib.hid lu
  have r1 := rule_app
  have r2 := rule_ext
  clear hn hu hD hP hP0 es h2 hg2 hs hs2 hm lu
  unfold S
  go_enter Tryz.func212, Tryz.ntmps212
  go_upto_region 2 with (fail)
  rw [← HU.out]
  clear c8 c9 f8 f9 e1 e2 e3 e4
  obtain ⟨x, hx⟩ : ∃ x, x = (w.setCell ⟨P, 9, none⟩ (.int .u64 (n : Int))).setCell ⟨P, 8, none⟩ (.string ⟨u.toArray⟩) := ⟨_, rfl⟩
  rw [← hx] at H2 HG2 ⊢
  clear hx
  have lu : u.length ≤ 9223372036854775807 := by have := LU.out; omega
  go_loopw [22] (fun v22 wr => ∃ (s' : List Nat) (u' : List UInt8), Hid (HashIs wr P s' u' n) ∧ Hid (s'.length = 8) ∧ Hid (Small32 s') ∧ Hid (Doing s' u' X) ∧ u'.length ≤ 9223372036854775807 ∧ Hid (w.grownBy wr (some P))) (fun _ wr => match wr.cell? ⟨P, 8, none⟩ with | some (.string b) => b.size | _ => 0)
  case atStart => exact ⟨s, u, H2, HS, HS2, HD, lu, HG2⟩
  case round =>
    clear H2 HG2 HD lu LU HU HS HS2 hl
    obtain ⟨s', u', hH, hs, hs2, hD, lu, hg⟩ := hrel
    obtain ⟨a0, a1, a2, a3, a4, a5, a6, a7, es⟩ := eight hs.out
    have hP0 := hH.out
    rw [es] at hP0
    obtain ⟨⟨c0, c1, c2, c3, c4, c5, c6, c7⟩, c8, _⟩ := hP0.cells
    by_cases hlt : 64 ≤ u'.length
    · have A1 : ∀ W : World, Calls Tryz.prog 265 #[A32 s', S (u'.take 64)] W (Grown (A32 (takenL s' (u'.take 64))) W) := fun W => code_taken W s' (u'.take 64) hs.out hs2.out (by rw [List.length_take]; omega)
      have hD2 := Lib.hid (hD.out.more hlt)
      have lT := takenL_length s' (u'.take 64) hs.out
      have sT := Lib.hid (takenL_small s' (u'.take 64))
      generalize takenL s' (u'.take 64) = T at *
      obtain ⟨b0, b1, b2, b3, b4, b5, b6, b7, eT⟩ := eight lT
      have hA : A32 s' = .agg #[.int .u32 (a0 : Int), .int .u32 (a1 : Int), .int .u32 (a2 : Int), .int .u32 (a3 : Int), .int .u32 (a4 : Int), .int .u32 (a5 : Int), .int .u32 (a6 : Int), .int .u32 (a7 : Int)] := by rw [es]; rfl
      have hT : A32 T = .agg #[.int .u32 (b0 : Int), .int .u32 (b1 : Int), .int .u32 (b2 : Int), .int .u32 (b3 : Int), .int .u32 (b4 : Int), .int .u32 (b5 : Int), .int .u32 (b6 : Int), .int .u32 (b7 : Int)] := by rw [eT]; rfl
      rw [hA, hT] at A1
      unfold S at A1
      have F0 := hH.out.frozen
      have f0 := F0 0
      have f1 := F0 1
      have f2 := F0 2
      have f3 := F0 3
      have f4 := F0 4
      have f5 := F0 5
      have f6 := F0 6
      have f7 := F0 7
      have ET := Lib.hid eT
      have ES := Lib.hid es
      have LT := Lib.hid lT
      clear F0 hA hT hP0 es eT lT
      have q1 : (64 : Int) ≤ (u'.length : Int) := by omega
      have q2 : decide (64 ≤ u'.length) = true := by simpa using hlt
      go_wp2_with fail
      go_region_with (first
        | (go_at_call 265; (with_reducible refine (A1 _).mono ?_); rintro e x1 ⟨rfl, hg1⟩; have hH1 := HashIs.kept (HashIs.drew hH.out) hg1 nofun; have k0 := hH1.frozen 0; have k1 := hH1.frozen 1; have k2 := hH1.frozen 2; have k3 := hH1.frozen 3; have k4 := hH1.frozen 4; have k5 := hH1.frozen 5; have k6 := hH1.frozen 6; have k7 := hH1.frozen 7; have hq := hH1; rw [ES.out] at hq; obtain ⟨⟨n0, n1, n2, n3, n4, n5, n6, n7⟩, n8, n9⟩ := hq.cells; clear hq))
      all_goals
        have h3 := hH1.set8 hs.out b0 b1 b2 b3 b4 b5 b6 b7
        rw [← ET.out] at h3
        have hg3 := grow_set8 (P := P) (grow_trans (grow_drew hg.out) (grow_none hg1)) (.int .u32 (b0 : Int)) (.int .u32 (b1 : Int)) (.int .u32 (b2 : Int)) (.int .u32 (b3 : Int)) (.int .u32 (b4 : Int)) (.int .u32 (b5 : Int)) (.int .u32 (b6 : Int)) (.int .u32 (b7 : Int))
        generalize ((((((((x1.setCell ⟨P, 0, none⟩ (.int .u32 (b0 : Int))).setCell ⟨P, 1, none⟩ (.int .u32 (b1 : Int))).setCell ⟨P, 2, none⟩ (.int .u32 (b2 : Int))).setCell ⟨P, 3, none⟩ (.int .u32 (b3 : Int))).setCell ⟨P, 4, none⟩ (.int .u32 (b4 : Int))).setCell ⟨P, 5, none⟩ (.int .u32 (b5 : Int))).setCell ⟨P, 6, none⟩ (.int .u32 (b6 : Int))).setCell ⟨P, 7, none⟩ (.int .u32 (b7 : Int))) = x2 at *
        have h4 := h3
        rw [ET.out] at h4
        obtain ⟨_, m8, _⟩ := h4.cells
        have mf := h3.frozen 8
        have h5 := Lib.hid (h3.setRest LT.out (u'.drop 64))
        have h6 := Lib.hid (grow_setCell hg3 8 (.string ⟨(u'.drop 64).toArray⟩))
        have hm : u'.drop 64 = (u'.drop 64).take (u'.length - 64) := by rw [List.take_of_length_le (by rw [List.length_drop]; omega)]
        have HM := Lib.hid hm
        clear h3 h4 hg3 hm n0 n1 n2 n3 n4 n5 n6 n7 n8 n9 k0 k1 k2 k3 k4 k5 k6 k7 hH1 hg1 hg hH hD
        go_wp2_with fail
        go_roundw
        case rel => exact ⟨T, u'.drop 64, by have e := h5.out; first | exact Lib.hid e | (rw [← HM.out]; exact Lib.hid e), LT, sT, hD2, by rw [List.length_drop]; omega, by have e := h6.out; first | exact Lib.hid e | (rw [← HM.out]; exact Lib.hid e)⟩
        case measure =>
          have e5 := h5.out
          rw [ET.out] at e5
          obtain ⟨_, e8, _⟩ := e5.cells
          rw [← HM.out, e8, c8]
          simp [ByteArray.size]
          omega
    · have hX := Lib.hid (hD.out.done hlt)
      have q2 : decide (64 ≤ u'.length) = false := by simpa using hlt
      have q3 : ¬ (64 : Int) ≤ (u'.length : Int) := by omega
      clear es hP0 hD
      go_wp2_with fail
      go_end0
      have e := hX.out
      rw [e]
      exact ⟨rfl, hH.out, hg.out⟩

end Go.Proofs.YtmomfbkpniblgaaGreatDoor
