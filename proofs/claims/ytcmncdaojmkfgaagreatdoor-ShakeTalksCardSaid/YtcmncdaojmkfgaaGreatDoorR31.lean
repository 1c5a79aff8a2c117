/-
  Several texts of this claim in one: AesEnc, AesNew.
-/
import Derived.Test.YtcmncdaojmkfgaaGreatDoorR18
import Derived.Test.YtcmncdaojmkfgaaGreatDoorQ02
import Derived.Test.YtcmncdaojmkfgaaGreatDoorAesExpand
namespace Go.Proofs.YtcmncdaojmkfgaaGreatDoor
open Go.RowKit
set_option linter.unusedVariables false

/-- A cipher: where its tables are, what its words are. -/
def Cph (w : World) (C T : Nat) (W : List UInt8) : Prop := Blk w C 239 [.pointer (some ⟨T, 0, none⟩), S W]

theorem Cph.c0 {w : World} {C T : Nat} {W : List UInt8} (h : Cph w C T W) : w.cell? ⟨C, 0, none⟩ = some (.pointer (some ⟨T, 0, none⟩)) := by rw [Blk.cell h]; rfl
theorem Cph.c1 {w : World} {C T : Nat} {W : List UInt8} (h : Cph w C T W) : w.cell? ⟨C, 1, none⟩ = some (S W) := by rw [Blk.cell h]; rfl

theorem info16b : (Tryz.prog.info? 250).map (·.size) = some 16 := by kernel_rfl

theorem bcells_mem (l : List UInt8) : ∀ v ∈ l.map bcell, v.oneCell' = true := by
  intro v hv
  obtain ⟨c, _, rfl⟩ := List.mem_map.1 hv
  rfl

/-- What stands behind '[16]byte([]byte(text))' in a new variable. -/
def Boxed16 (w : World) (l : List UInt8) (y : World) (B : Nat) : Prop := BB y B l ∧ w.grownBy y none ∧ w.heap.size ≤ B

set_option maxRecDepth 20000 in
set_option maxHeartbeats 1000000 in
theorem code_encT (w : World) (C T n : Nat) (W text : List UInt8) (hC : Cph w C T W) (hT : Tab w T) (ht : text.length = 16) (hW : W.length = 16 * (n + 1)) (hn : 1 ≤ n) (hn2 : n ≤ 100) :
    Calls Tryz.prog 175 #[.pointer (some ⟨C, 0, none⟩), S text] w fun e w' => e = .returned (S (encS W n text)) ∧ w.grownBy w' none := by
  obtain ⟨cap, x, hcv, hcap, hgx, hltx, hby⟩ := to_bytes w text (by omega)
  have hCl := Blk.lt hC
  have hTl := TabK.lt hT
  have hcc := hC.c1
  have HC := Lib.hid (Blk.kept hC hgx nofun)
  have HT := Lib.hid (hT.kept hgx nofun)
  have hsv := fun V : World => run_store_new (P := Tryz.prog) V #[.int .u8 0, .int .u8 0, .int .u8 0, .int .u8 0, .int .u8 0, .int .u8 0, .int .u8 0, .int .u8 0, .int .u8 0, .int .u8 0, .int .u8 0, .int .u8 0, .int .u8 0, .int .u8 0, .int .u8 0, .int .u8 0] 250 (text.map bcell) (by simp [ht]) (bcells_mem text)
  have hr : x.rangeAt w.heap.size 0 (text.map bcell) := by
    intro j v hv
    rw [Nat.zero_add]
    by_cases hj : j < text.length
    · rw [hby.cell j hj]
      simp [hj, bcell] at hv
      rw [hv]
    · rw [List.getElem?_eq_none (by simpa using hj)] at hv
      cases hv
  have hat := fun V : World => run_arrayAt (P := Tryz.prog) (w := V) 250 5 16 (some ⟨w.heap.size, 0, none⟩) 16 cap Tryz.underlying250 (Nat.le_refl _)
  have HTX := Lib.hid ht
  have HW := Lib.hid hW
  have q1 : ¬ text.length < 16 := by omega
  have HX := Lib.hid (And.intro hgx hltx)
  have lW : 16 ≤ W.length := by omega
  have HBY := Lib.hid hby
  rw [ht] at hcv
  clear ht hW hby hgx hltx hC hT hcap
  unfold S at *
  go_enter Tryz.func175, Tryz.ntmps175
  go_upto_region 2 with (fail)
  refine wp_region_lit ?_
  refine Go.Great.wpList_readTo rfl _ rfl (.string ⟨text.toArray⟩) rfl ?_
  refine Go.Great.wpList_runTo rfl _ rfl (.slice (some ⟨w.heap.size, 0, none⟩) 16 cap) x (by simp [execOp, Act.eval, Act.put, hcv]) ?_
  refine Go.Great.wpList_readTo rfl _ rfl (.pointer (some ⟨w.heap.size, 0, none⟩)) (by simp [execOp, Act.eval, Act.put, hat]) ?_
  refine wpList_load_mid rfl 250 _ rfl w.heap.size 0 rfl (text.map bcell) _ hr Tryz.underlying250 rfl (by rw [List.length_map, HTX.out]; exact info16b) ?_
  go_upto_region 3 with (fail)
  clear hsv hat hr hcv
  obtain ⟨B, hBe⟩ : ∃ B, B = x.heap.size := ⟨_, rfl⟩
  have hB0 : BB (x.alloc (.cells (text.map bcell).toArray 250)) B text := by rw [hBe]; exact Blk.new x _ _
  have hC0 : Cph (x.alloc (.cells (text.map bcell).toArray 250)) C T W := Blk.kept HC.out (World.grownBy_alloc _ _ none) nofun
  have hT0 : Tab (x.alloc (.cells (text.map bcell).toArray 250)) T := HT.out.kept (World.grownBy_alloc _ _ none) nofun
  have hg0 : w.grownBy (x.alloc (.cells (text.map bcell).toArray 250)) none := grow_alloc HX.out.1 _
  have hwB : w.heap.size ≤ B := by rw [hBe]; exact HX.out.1.size
  rw [← hBe]
  clear hBe HC HT HX HBY
  generalize x.alloc (.cells (text.map bcell).toArray 250) = y at *
  have HB0 := Lib.hid hB0
  have HC0 := Lib.hid hC0
  have HT0 := Lib.hid hT0
  have HG0 := Lib.hid hg0
  have hTg : ∀ W' : World, y.grownBy W' (some B) → Hid (∀ c : UInt8, W'.cell? ⟨T, 0 + c.toNat, none⟩ = some (.int .u8 ((gsubB c).toNat : Int))) := fun W' g => Lib.hid (fun c => by rw [Nat.zero_add]; exact Tab.sub (HT0.out.kept g (by simp; omega)) c)
  have hCg : ∀ W' : World, y.grownBy W' (some B) → Hid (W'.cell? ⟨C, 0, none⟩ = some (.pointer (some ⟨T, 0, none⟩))) := fun W' g => Lib.hid (Cph.c0 (W := W) (Blk.kept HC0.out g (by simp; omega)))
  clear hB0 hC0 hT0 hg0 hcc
  go_wp2_with fail
  refine (code_aadd y B text W HB0.out HTX.out lW (by have := HW.out; omega)).mono ?_
  rintro e w1 ⟨rfl, hB1, hg1⟩
  have e16 : List.take (W.length - 16) (List.drop 16 W) = List.drop 16 W := List.take_of_length_le (by simp)
  have HB1 := Lib.hid hB1
  have HG1 := Lib.hid hg1
  have r2 := rule_ext
  clear hB1 hg1 HB0
  go_wp2_with fail
  clear e16
  go_loopw [5] (fun vw wr => ∃ (r : Nat) (U : List UInt8), r ≤ n ∧ vw = .string ⟨U.toArray⟩ ∧ Hid (U = W.drop (16 * (r + 1))) ∧ U.length + 16 * r = 16 * n ∧ Hid (BB wr B (encS W r text)) ∧ Hid (y.grownBy wr (some B))) (fun vw _ => match vw with | .string b => b.size | _ => 0)
  case atStart => exact ⟨0, W.drop 16, by omega, rfl, Lib.hid rfl, by rw [List.length_drop, HW.out]; omega, Lib.hid HB1.out, Lib.hid HG1.out⟩
  case round =>
    clear HB1 HG1
    obtain ⟨r, U, hrn, rfl, hU, hUl, hB, hg⟩ := hrel
    by_cases hlt : r < n
    · have lne : U ≠ [] := by intro e; subst e; simp at hUl; omega
      have q1 : (!U.isEmpty) = true := by simpa using lne
      have q2 : U.isEmpty = false := by simpa using lne
      have es := encS_length W text HTX.out r (by rw [HW.out]; omega)
      have HES := Lib.hid es
      have hc0 := (hCg wr hg.out).out
      clear es lne
      go_wp2_with fail
      refine (code_through wr B T 0 gsubB (encS W r text) hB.out HES.out (fun W' g => (hTg W' (grow_trans hg.out g)).out)).mono ?_
      rintro e w2 ⟨rfl, hB2, hg2⟩
      have HB2 := Lib.hid hB2
      have HG2 := Lib.hid (grow_trans hg.out hg2)
      clear hB2 hg2 hc0
      go_wp2_with fail
      refine (code_arows w2 B 1 _ HB2.out (by rw [List.length_map]; exact HES.out) (by omega)).mono ?_
      rintro e w3 ⟨rfl, hB3, hg3⟩
      have HB3 := Lib.hid hB3
      have HG3 := Lib.hid (grow_trans HG2.out hg3)
      clear hB3 hg3
      have e16 : List.take (U.length - 16) (List.drop 16 U) = List.drop 16 U := List.take_of_length_le (by simp)
      have l16 : 16 ≤ U.length := by omega
      have hnx : Hid (U.drop 16 = W.drop (16 * (r + 1 + 1))) := Lib.hid (by rw [hU.out, List.drop_drop]; congr 1)
      by_cases h16 : 16 < U.length
      · have hen : Hid (encS W (r + 1) text = xorL (colsL [2, 3, 1, 1] (rowsL 1 ((encS W r text).map gsubB))) U) := Lib.hid (by
          rw [encS, encR, if_pos (by rw [← List.length_drop, ← hU.out]; exact h16), hU.out])
        have q3 : (16 : Int) < (U.length : Int) := by omega
        go_wp2_with fail
        refine (code_acols w3 B [2, 3, 1, 1] _ HB3.out (rowsL_length _ _) rfl).mono ?_
        rintro e w4 ⟨rfl, hB4, hg4⟩
        have HB4 := Lib.hid hB4
        have HG4 := Lib.hid (grow_trans HG3.out hg4)
        clear hB4 hg4
        go_wp2_with fail
        refine (code_aadd w4 B _ U HB4.out (colsL_length _ _) l16 (by have := HW.out; omega)).mono ?_
        rintro e w5 ⟨rfl, hB5, hg5⟩
        have HB5 := Lib.hid hB5
        have HG5 := Lib.hid (grow_trans HG4.out hg5)
        clear hB5 hg5
        go_wp2_with fail
        go_roundw
        case rel => exact ⟨r + 1, U.drop 16, by omega, rfl, hnx, by rw [List.length_drop]; omega, Lib.hid (by rw [hen.out]; exact HB5.out), HG5⟩
        case measure => simp [ByteArray.size]; omega
      · have hen : Hid (encS W (r + 1) text = xorL (rowsL 1 ((encS W r text).map gsubB)) U) := Lib.hid (by
          rw [encS, encR, if_neg (by rw [← List.length_drop, ← hU.out]; exact h16), hU.out])
        have q3 : ¬ (16 : Int) < (U.length : Int) := by omega
        go_wp2_with fail
        refine (code_aadd w3 B _ U HB3.out (rowsL_length _ _) l16 (by have := HW.out; omega)).mono ?_
        rintro e w5 ⟨rfl, hB5, hg5⟩
        have HB5 := Lib.hid hB5
        have HG5 := Lib.hid (grow_trans HG3.out hg5)
        clear hB5 hg5
        go_wp2_with fail
        go_roundw
        case rel => exact ⟨r + 1, U.drop 16, by omega, rfl, hnx, by rw [List.length_drop]; omega, Lib.hid (by rw [hen.out]; exact HB5.out), HG5⟩
        case measure => simp [ByteArray.size]; omega
    · obtain rfl : r = n := by omega
      obtain rfl : U = [] := List.eq_nil_of_length_eq_zero (by omega)
      have hcs := conv_bys (BB.bys hB.out) 16
      rw [encS_length W text HTX.out r (by have := HW.out; omega)] at hcs
      have HG := Lib.hid (grow_trans_new HG0.out hg.out hwB)
      go_wp2_with fail
      go_ret
      exact ⟨rfl, HG.out⟩

end Go.Proofs.YtcmncdaojmkfgaaGreatDoor

namespace Go.Proofs.YtcmncdaojmkfgaaGreatDoor
open Go.RowKit
set_option linter.unusedVariables false

def isKeyB (key : List UInt8) : Bool := decide (key.length = 16 ∨ key.length = 32)
theorem code_isKey (w : World) (key : List UInt8) : Calls Tryz.prog 171 #[S key] w fun e w' => e = .returned (.bool (isKeyB key)) ∧ w = w' := by
  unfold isKeyB S
  by_cases h1 : key.length = 16
  · have q : ((key.length : Int) == 16) = true := by simp; omega
    rw [decide_eq_true (Or.inl h1)]
    clear h1
    go_enter Tryz.func171, Tryz.ntmps171
    go_wp2_with fail
    go_ret
    exact ⟨rfl, rfl⟩
  · have q : ((key.length : Int) == 16) = false := by simp; omega
    by_cases h2 : key.length = 32
    · have q2 : ((key.length : Int) == 32) = true := by simp; omega
      rw [decide_eq_true (Or.inr h2)]
      clear h1 h2
      go_enter Tryz.func171, Tryz.ntmps171
      go_wp2_with fail
      go_ret
      exact ⟨rfl, rfl⟩
    · have q2 : ((key.length : Int) == 32) = false := by simp; omega
      rw [decide_eq_false (by omega)]
      clear h1 h2
      go_enter Tryz.func171, Tryz.ntmps171
      go_wp2_with fail
      go_ret
      exact ⟨rfl, rfl⟩

/-- A new cipher of a key. -/
def NewC (w : World) (key : List UInt8) (e : Ending) (w' : World) : Prop := ∃ C T, e = .returned (.pointer (some ⟨C, 0, none⟩)) ∧ Cph w' C T (expL key) ∧ Tab w' T ∧ w.heap.size ≤ C ∧ w.heap.size ≤ T ∧ w.grownBy w' none

theorem code_new_err (w : World) (key : List UInt8) (hk : ¬ (key.length = 16 ∨ key.length = 32)) :
    Calls Tryz.prog 168 #[S key] w fun e w' => e = .returned (.pointer none) ∧ w = w' := by
  have H := Lib.hid (show isKeyB key = false from decide_eq_false hk)
  clear hk
  unfold S
  go_enter Tryz.func168, Tryz.ntmps168
  go_wp2_with fail
  refine (code_isKey w key).mono ?_
  rintro e w1 ⟨rfl, rfl⟩
  rw [H.out]
  go_wp2_with fail
  go_ret
  exact ⟨rfl, rfl⟩

theorem code_anew (w : World) (key : List UInt8) (hk : key.length = 16 ∨ key.length = 32) :
    Calls Tryz.prog 168 #[S key] w (NewC w key) := by
  have H := Lib.hid (show isKeyB key = true from decide_eq_true hk)
  have HK := Lib.hid hk
  clear hk
  unfold S
  go_enter Tryz.func168, Tryz.ntmps168
  go_wp2_with fail
  refine (code_isKey w key).mono ?_
  rintro e w1 ⟨rfl, rfl⟩
  rw [H.out]
  go_wp2_with fail
  refine (code_made _).mono ?_
  rintro e w1 ⟨T, rfl, hT1, hT2, hg1⟩
  have HT := Lib.hid hT2
  clear hT2
  go_wp2_with fail
  refine (code_expandT w1 T (key.length / 4) key HT.out (by have := HK.out; omega) (by have := HK.out; omega)).mono ?_
  rintro e w2 ⟨rfl, hg2⟩
  unfold S
  go_wp2_with fail
  go_ret
  exact ⟨_, T, rfl, obj_new w2 _, (HT.out.kept hg2 nofun).kept (World.grownBy_alloc _ _ none) nofun, (grow_trans hg1 hg2).size, hT1, grow_alloc (grow_trans hg1 hg2) _⟩

def noneE : Value := .tuple #[S [], .int .i64 1]

end Go.Proofs.YtcmncdaojmkfgaaGreatDoor
