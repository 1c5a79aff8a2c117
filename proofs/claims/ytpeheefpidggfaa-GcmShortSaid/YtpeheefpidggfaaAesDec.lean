/- AES: a cipher decrypts blocks. -/
import Derived.Test.YtpeheefpidggfaaAesEnc
namespace Go.Proofs.Ytpeheefpidggfaa
open Go.RowKit
set_option linter.unusedVariables false

set_option maxRecDepth 20000 in
set_option maxHeartbeats 1000000 in
theorem code_decT (w : World) (C T n : Nat) (W text : List UInt8) (hC : Cph w C T W) (hT : Tab w T) (ht : text.length = 16) (hW : W.length = 16 * (n + 1)) (hn : 1 ≤ n) (hn2 : n ≤ 100) :
    Calls Try.prog 34 #[.pointer (some ⟨C, 0, none⟩), S text] w fun e w' => e = .returned (S (decS W n text)) ∧ w.grownBy w' none := by
  obtain ⟨cap, x, hcv, hcap, hgx, hltx, hby⟩ := to_bytes w text (by omega)
  have hCl := Blk.lt hC
  have hTl := TabK.lt hT
  have hcc := hC.c1
  have HC := Lib.hid (Blk.kept hC hgx nofun)
  have HT := Lib.hid (hT.kept hgx nofun)
  have hsv := fun V : World => run_store_new (P := Try.prog) V #[.int .u8 0, .int .u8 0, .int .u8 0, .int .u8 0, .int .u8 0, .int .u8 0, .int .u8 0, .int .u8 0, .int .u8 0, .int .u8 0, .int .u8 0, .int .u8 0, .int .u8 0, .int .u8 0, .int .u8 0, .int .u8 0] 67 (text.map bcell) (by simp [ht]) (bcells_mem text)
  have hr : x.rangeAt w.heap.size 0 (text.map bcell) := by
    intro j v hv
    rw [Nat.zero_add]
    by_cases hj : j < text.length
    · rw [hby.cell j hj]
      simp [hj, bcell] at hv
      rw [hv]
    · rw [List.getElem?_eq_none (by simpa using hj)] at hv
      cases hv
  have hat := fun V : World => run_arrayAt (P := Try.prog) (w := V) 67 5 16 (some ⟨w.heap.size, 0, none⟩) 16 cap Try.underlying67 (Nat.le_refl _)
  have HTX := Lib.hid ht
  have HW := Lib.hid hW
  have q1 : ¬ text.length < 16 := by omega
  have HX := Lib.hid (And.intro hgx hltx)
  have lW : 16 ≤ W.length := by omega
  have HBY := Lib.hid hby
  rw [ht] at hcv
  clear ht hW hby hgx hltx hC hT hcap
  unfold S at *
  go_enter Try.func34, Try.ntmps34
  go_upto_region 2 with (fail)
  refine wp_region_lit ?_
  refine Go.Great.wpList_readTo rfl _ rfl (.string ⟨text.toArray⟩) rfl ?_
  refine Go.Great.wpList_runTo rfl _ rfl (.slice (some ⟨w.heap.size, 0, none⟩) 16 cap) x (by simp [execOp, Act.eval, Act.put, hcv]) ?_
  refine Go.Great.wpList_readTo rfl _ rfl (.pointer (some ⟨w.heap.size, 0, none⟩)) (by simp [execOp, Act.eval, Act.put, hat]) ?_
  refine wpList_load_mid rfl 67 _ rfl w.heap.size 0 rfl (text.map bcell) _ hr Try.underlying67 rfl (by rw [List.length_map, HTX.out]; exact info16b) ?_
  go_upto_region 3 with (fail)
  clear hsv hat hr hcv
  obtain ⟨B, hBe⟩ : ∃ B, B = x.heap.size := ⟨_, rfl⟩
  have hB0 : BB (x.alloc (.cells (text.map bcell).toArray 67)) B text := by rw [hBe]; exact Blk.new x _ _
  have hC0 : Cph (x.alloc (.cells (text.map bcell).toArray 67)) C T W := Blk.kept HC.out (World.grownBy_alloc _ _ none) nofun
  have hT0 : Tab (x.alloc (.cells (text.map bcell).toArray 67)) T := HT.out.kept (World.grownBy_alloc _ _ none) nofun
  have hg0 : w.grownBy (x.alloc (.cells (text.map bcell).toArray 67)) none := grow_alloc HX.out.1 _
  have hwB : w.heap.size ≤ B := by rw [hBe]; exact HX.out.1.size
  rw [← hBe]
  clear hBe HC HT HX HBY
  generalize x.alloc (.cells (text.map bcell).toArray 67) = y at *
  have HB0 := Lib.hid hB0
  have HC0 := Lib.hid hC0
  have HT0 := Lib.hid hT0
  have HG0 := Lib.hid hg0
  have hTg : ∀ W' : World, y.grownBy W' (some B) → Hid (∀ c : UInt8, W'.cell? ⟨T, 256 + c.toNat, none⟩ = some (.int .u8 ((gbackB c).toNat : Int))) := fun W' g => Lib.hid (fun c => Tab.back (HT0.out.kept g (by simp; omega)) c)
  have hCg : ∀ W' : World, y.grownBy W' (some B) → Hid (W'.cell? ⟨C, 0, none⟩ = some (.pointer (some ⟨T, 0, none⟩))) := fun W' g => Lib.hid (Cph.c0 (W := W) (Blk.kept HC0.out g (by simp; omega)))
  clear hB0 hC0 hT0 hg0 hcc
  obtain ⟨m0, hm0⟩ : ∃ m0 : Nat, m0 = 16 * n := ⟨_, rfl⟩
  have r2 := rule_ext
  have z1 : (W.length : Int) - 16 = (m0 : Int) := by have := HW.out; omega
  have HM0 := Lib.hid hm0
  have z2 : (0 : Int) ≤ (m0 : Int) := by omega
  have z3 : (m0 : Int) ≤ 2000 := by omega
  clear hm0
  go_wp2_with fail
  go_loopw [7] (fun va wr => ∃ (r : Nat) (s : List UInt8), r ≤ n ∧ va = .int .i64 (((16 * r : Nat)) : Int) ∧ s.length = 16 ∧ Hid (decS W n text = decS W r s) ∧ Hid (BB wr B s) ∧ Hid (y.grownBy wr (some B))) (fun va _ => (intOf va).toNat)
  case atStart => exact ⟨n, text, by omega, by rw [HM0.out], HTX.out, Lib.hid rfl, HB0, Lib.hid (grow_refl _ _)⟩
  case round =>
    clear HB0
    obtain ⟨r0, s, hrn, rfl, hs, hD, hB, hg⟩ := hrel
    by_cases hlt : 0 < r0
    · obtain ⟨r, rfl⟩ : ∃ r, r0 = r + 1 := ⟨r0 - 1, by omega⟩
      obtain ⟨m, hm⟩ : ∃ m : Nat, m = 16 * (r + 1) := ⟨_, rfl⟩
      have HS := Lib.hid hs
      have hWl := HW.out
      have hMl := HM0.out
      have u1 : (0 : Int) < (m : Int) := by omega
      have u2 : (0 : Int) ≤ (m : Int) := by omega
      have u3 : (m : Int) ≤ (W.length : Int) := by omega
      obtain ⟨U, hUe⟩ : ∃ U, U = W.drop m := ⟨_, rfl⟩
      have hU : List.take (W.length - m) (List.drop m W) = U := by rw [hUe]; exact List.take_of_length_le (by simp)
      have lU : U.length + m = W.length := by rw [hUe, List.length_drop]; omega
      have HUE := Lib.hid (show U = W.drop (16 * (r + 1)) from by rw [hUe, hm])
      have HMM := Lib.hid hm
      rw [← hm]
      clear hs hWl hMl hUe hm
      have hc0 := fun W' g => (hCg W' g).out
      have HC0g := Lib.hid hc0
      clear hc0
      have l16 : 16 ≤ U.length := by have := HW.out; have := HMM.out; omega
      have lUm : U.length ≤ 140737488355328 := by have := HW.out; omega
      have hdr : Hid (decS W (r + 1) s = decS W r (decR W r s)) := Lib.hid rfl
      go_wp2_with fail
      refine (code_aadd wr B s U hB.out HS.out l16 lUm).mono ?_
      rintro e w1 ⟨rfl, hB1, hg1⟩
      have HB1 := Lib.hid hB1
      have HG1 := Lib.hid (grow_trans hg.out hg1)
      have lx : (xorL s U).length = 16 := by rw [xorL_length, HS.out]; omega
      have LX := Lib.hid lx
      clear hB1 hg1 lx hU
      by_cases h16 : 16 < U.length
      · have hen : Hid (decR W r s = (rowsL 3 (colsL [14, 11, 13, 9] (xorL s U))).map gbackB) := Lib.hid (by
          rw [decR, if_pos (by rw [← List.length_drop, ← HUE.out]; exact h16), ← HUE.out])
        have q3 : (m : Int) < (m0 : Int) := by omega
        go_wp2_with fail
        refine (code_acols w1 B [14, 11, 13, 9] _ HB1.out LX.out rfl).mono ?_
        rintro e w2 ⟨rfl, hB2, hg2⟩
        have HB2 := Lib.hid hB2
        have HG2 := Lib.hid (grow_trans HG1.out hg2)
        clear hB2 hg2
        go_wp2_with fail
        refine (code_arows w2 B 3 _ HB2.out (colsL_length _ _) (by omega)).mono ?_
        rintro e w3 ⟨rfl, hB3, hg3⟩
        have HB3 := Lib.hid hB3
        have HG3 := Lib.hid (grow_trans HG2.out hg3)
        have hc0 := HC0g.out w3 HG3.out
        clear hB3 hg3
        go_wp2_with fail
        refine (code_through w3 B T 256 gbackB _ HB3.out (rowsL_length _ _) (fun W' g => (hTg W' (grow_trans HG3.out g)).out)).mono ?_
        rintro e w4 ⟨rfl, hB4, hg4⟩
        have HB4 := Lib.hid hB4
        have HG4 := Lib.hid (grow_trans HG3.out hg4)
        clear hB4 hg4 hc0
        go_wp2_with fail
        go_roundw
        case rel => exact ⟨r, decR W r s, by omega, by rw [HMM.out]; congr 1; omega, decR_length _ _ _, Lib.hid (by rw [hD.out, hdr.out]), Lib.hid (by rw [hen.out]; exact HB4.out), HG4⟩
        case measure => have := HMM.out; simp [intOf]; omega
      · have hen : Hid (decR W r s = (rowsL 3 (xorL s U)).map gbackB) := Lib.hid (by
          rw [decR, if_neg (by rw [← List.length_drop, ← HUE.out]; exact h16), ← HUE.out])
        have q3 : ¬ (m : Int) < (m0 : Int) := by omega
        go_wp2_with fail
        refine (code_arows w1 B 3 _ HB1.out LX.out (by omega)).mono ?_
        rintro e w3 ⟨rfl, hB3, hg3⟩
        have HB3 := Lib.hid hB3
        have HG3 := Lib.hid (grow_trans HG1.out hg3)
        have hc0 := HC0g.out w3 HG3.out
        clear hB3 hg3
        go_wp2_with fail
        refine (code_through w3 B T 256 gbackB _ HB3.out (rowsL_length _ _) (fun W' g => (hTg W' (grow_trans HG3.out g)).out)).mono ?_
        rintro e w4 ⟨rfl, hB4, hg4⟩
        have HB4 := Lib.hid hB4
        have HG4 := Lib.hid (grow_trans HG3.out hg4)
        clear hB4 hg4 hc0
        go_wp2_with fail
        go_roundw
        case rel => exact ⟨r, decR W r s, by omega, by rw [HMM.out]; congr 1; omega, decR_length _ _ _, Lib.hid (by rw [hD.out, hdr.out]), Lib.hid (by rw [hen.out]; exact HB4.out), HG4⟩
        case measure => have := HMM.out; simp [intOf]; omega
    · obtain rfl : r0 = 0 := by omega
      have HS := Lib.hid hs
      clear hs
      go_wp2_with fail
      refine (code_aadd wr B s W hB.out HS.out lW (by have := HW.out; omega)).mono ?_
      rintro e w1 ⟨rfl, hB1, hg1⟩
      have hcs := conv_bys (BB.bys hB1) 16
      rw [show (xorL s W).length = 16 from by rw [xorL_length, HS.out]; omega] at hcs
      have HG := Lib.hid (grow_trans_new HG0.out (grow_trans hg.out hg1) hwB)
      clear hB1 hg1
      go_wp2_with fail
      go_ret
      exact ⟨by rw [hD.out]; rfl, HG.out⟩

end Go.Proofs.Ytpeheefpidggfaa
