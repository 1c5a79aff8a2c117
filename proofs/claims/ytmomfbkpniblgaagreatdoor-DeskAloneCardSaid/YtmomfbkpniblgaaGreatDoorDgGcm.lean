/- Sealed by blocks: block, xored, tag. -/
import Derived.Test.YtmomfbkpniblgaaGreatDoorDgGcmPlain
import Derived.Test.YtmomfbkpniblgaaGreatDoorDg17
import Derived.Test.YtmomfbkpniblgaaGreatDoorDg13
namespace Go.Proofs.YtmomfbkpniblgaaGreatDoor
open Go.RowKit
set_option linter.unusedVariables false

/-- A box: a cipher, a nonce. -/
def GBox (w : World) (C T : Nat) (key : List UInt8) : Prop := Cph w C T (expL key) ∧ Tab w T
theorem GBox.kept {w w' : World} {C T : Nat} {key : List UInt8} (h : GBox w C T key) (g : w.grownBy w' none) : GBox w' C T key := ⟨Blk.kept h.1 g nofun, h.2.kept g nofun⟩

theorem enc_box (w : World) (C T : Nat) (key text : List UInt8) (h : GBox w C T key) (hk : key.length = 32) (ht : text.length = 16) :
    Calls Tryz.prog 98 #[.pointer (some ⟨C, 0, none⟩), S text] w fun e w' => e = .returned (S (encL key text)) ∧ w.grownBy w' none :=
  code_encT w C T (key.length / 4 + 6) (expL key) text h.1 h.2 ht (by rw [(expL_pre key (Or.inr hk)).1]) (by omega) (by omega)

set_option maxRecDepth 100000 in
set_option maxHeartbeats 1000000 in
theorem code_gblock (w : World) (C T n : Nat) (key nonce : List UInt8) (h : GBox w C T key) (hk : key.length = 32) (hn : nonce.length = 12) (h32 : n < 4294967296) :
    Calls Tryz.prog 207 #[.agg #[.pointer (some ⟨C, 0, none⟩), S nonce], .int .i64 n] w (Grown (S (gblk key nonce n)) w) := by
  obtain ⟨B, hB⟩ : ∃ B, B = w.heap.size := ⟨_, rfl⟩
  obtain ⟨y, hy⟩ : ∃ y, y = w.alloc (.cells #[.pointer (some ⟨C, 0, none⟩), S nonce] 237) := ⟨_, rfl⟩
  have hgy : w.grownBy y none := by rw [hy]; exact grow_alloc (grow_refl w none) _
  have k0 : y.cell? ⟨B, 0, none⟩ = some (.pointer (some ⟨C, 0, none⟩)) := by rw [hy, hB, obj_cell (obj_new w _)]; rfl
  have k1 : y.cell? ⟨B, 1, none⟩ = some (S nonce) := by rw [hy, hB, obj_cell (obj_new w _)]; rfl
  have hyB : B < y.heap.size := by rw [hy, hB]; simp
  have HGB := Lib.hid (h.kept hgy)
  have HGY := Lib.hid hgy
  have HN := Lib.hid hn
  have hV : gblk key nonce n = encL key (nonce ++ bigB n 4) := rfl
  have lb : (nonce ++ bigB n 4).length = 16 := by rw [List.length_append, bigB_length, hn]
  have cv : ∀ W : World, ∃ v W', (convert 9 83 (.string ⟨nonce.toArray⟩)).run Tryz.prog W = .ok v W' ∧ bro W' W.heap.size v nonce ∧ W.grownBy W' none := fun W => to_bro W nonce (by unfold maxLen; omega)
  have A1 : ∀ (W : World) (b : Nat) (v : Value), bro W b v nonce → b ≤ W.heap.size → Calls Tryz.prog 70 #[v, .int .u64 n, .int .i64 4] W (OwnBro W b (nonce ++ bigB n 4)) := fun W b v h1 h2 => bro_appendBig W b v nonce n 4 h1 (by omega) (by omega) (by omega) h2
  have A2 : ∀ W : World, GBox W C T key → Calls Tryz.prog 98 #[.pointer (some ⟨C, 0, none⟩), S (nonce ++ bigB n 4)] W fun e w' => e = .returned (S (gblk key nonce n)) ∧ W.grownBy w' none := fun W hW => by rw [hV]; exact enc_box W C T key _ hW hk lb
  have e1 : IntKind.u64.wrap (n : Int) = (n : Int) := IntWalk.u64_in _ (by omega)
  generalize gblk key nonce n = V at *
  generalize nonce ++ bigB n 4 = X at *
  have HY := Lib.hid hy
  have HB := Lib.hid hB
  clear hy hB hV lb hgy h
  unfold S at *
  go_enter Tryz.func207, Tryz.ntmps207
  go_wp2_with fail
  rw [← HB.out, ← HY.out]
  obtain ⟨v, x, hcv, hbr, hgx⟩ := cv y.drew
  have hgx2 : y.grownBy x none := grow_trans (grow_drew (grow_refl y none)) hgx
  have m0 := hgx2.cell (a := ⟨B, 0, none⟩) k0 nofun
  have HGX := Lib.hid hgx2
  have HBR := Lib.hid (show bro x y.heap.size v nonce from hbr)
  have HSZ := Lib.hid (show y.heap.size ≤ x.heap.size from hgx2.size)
  clear cv hgx hgx2 hbr
  go_region_with
    (first
      | (go_at_call 70; (with_reducible refine (A1 _ _ _ HBR.out HSZ.out).mono ?_); rintro e w7 ⟨t1, rfl, hb1, hB1⟩; have hcs := conv_bro hb1; have n0 := (hB1.cell (p := ⟨B, 0, none⟩) hyB).trans m0; have HG7 := Lib.hid (grow_of_below (r := none) ((grow_below HGX.out _ (Nat.le_refl _) (by simp)).trans hB1)))
      | (go_at_call 98; (with_reducible refine (A2 _ (HGB.out.kept HG7.out)).mono ?_); rintro e w8 ⟨rfl, hg8⟩))
  all_goals
    have HF := grow_trans (grow_trans HGY.out HG7.out) hg8
    go_wp2_with fail
    go_ret
    exact ⟨rfl, HF⟩

end Go.Proofs.YtmomfbkpniblgaaGreatDoor
