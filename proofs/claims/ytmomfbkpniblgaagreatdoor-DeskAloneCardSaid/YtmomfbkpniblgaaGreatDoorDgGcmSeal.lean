/- Sealed by blocks: tag, Seal, Open. -/
import Derived.Test.YtmomfbkpniblgaaGreatDoorDgGcmX
import Derived.Test.YtmomfbkpniblgaaGreatDoorDgGhashOut
namespace Go.Proofs.YtmomfbkpniblgaaGreatDoor
open Go.RowKit
set_option linter.unusedVariables false

set_option maxRecDepth 100000 in
set_option maxHeartbeats 2000000 in
theorem code_gtag (w : World) (C T : Nat) (key nonce more s : List UInt8) (h : GBox w C T key) (hk : key.length = 32) (hn : nonce.length = 12) (hm : more.length ≤ 2000) (hs : s.length ≤ 2016) :
    Calls Tryz.prog 159 #[.agg #[.pointer (some ⟨C, 0, none⟩), S nonce], S more, S s] w (Grown (S (gtagL key nonce more s)) w) := by
  obtain ⟨B, hB⟩ : ∃ B, B = w.heap.size := ⟨_, rfl⟩
  obtain ⟨y, hy⟩ : ∃ y, y = w.alloc (.cells #[.pointer (some ⟨C, 0, none⟩), S nonce] 237) := ⟨_, rfl⟩
  have hgy : w.grownBy y none := by rw [hy]; exact grow_alloc (grow_refl w none) _
  have k0 : y.cell? ⟨B, 0, none⟩ = some (.pointer (some ⟨C, 0, none⟩)) := by rw [hy, hB, obj_cell (obj_new w _)]; rfl
  have k1 : y.cell? ⟨B, 1, none⟩ = some (S nonce) := by rw [hy, hB, obj_cell (obj_new w _)]; rfl
  have HGB := Lib.hid (h.kept hgy)
  have HGY := Lib.hid hgy
  have hV : gtagL key nonce more s = xorL (hsumL (encL key (zerosL 16)) more s) (gblk key nonce 1) := rfl
  have le := encL_length key (zerosL 16) (Or.inr hk) (by simp [zerosL])
  have lh := hsumL_length (encL key (zerosL 16)) more s
  have lb := gblk_length key nonce 1 hk hn
  have A1 : ∀ W : World, Calls Tryz.prog 62 #[.string ⟨#[0]⟩, .int .i64 16] W (Grown (S (zerosL 16)) W) := fun W => repeat_zero W 16 (by omega)
  have A2 : ∀ W : World, GBox W C T key → Calls Tryz.prog 98 #[.pointer (some ⟨C, 0, none⟩), S (zerosL 16)] W fun e w' => e = .returned (S (encL key (zerosL 16))) ∧ W.grownBy w' none := fun W hW => enc_box W C T key _ hW hk (by simp [zerosL])
  have A3 : ∀ W : World, Calls Tryz.prog 208 #[S (encL key (zerosL 16)), S more, S s] W fun e w' => e = .returned (.tuple #[S (hsumL (encL key (zerosL 16)) more s), .int .i64 0]) ∧ W.grownBy w' none := fun W => code_ghsum W _ more s le (by omega) (by omega)
  have A4 : ∀ W : World, GBox W C T key → Calls Tryz.prog 207 #[.agg #[.pointer (some ⟨C, 0, none⟩), S nonce], .int .i64 1] W (Grown (S (gblk key nonce 1)) W) := fun W hW => code_gblock W C T 1 key nonce hW hk hn (by omega)
  have A5 : ∀ W : World, Calls Tryz.prog 202 #[S (hsumL (encL key (zerosL 16)) more s), S (gblk key nonce 1)] W (GrowsTo (S (gtagL key nonce more s)) W) := fun W => by rw [hV]; exact wire_xor W _ _ (by omega) (by omega)
  generalize gtagL key nonce more s = V at *
  generalize hsumL (encL key (zerosL 16)) more s = H at *
  generalize encL key (zerosL 16) = E at *
  generalize gblk key nonce 1 = bl at *
  generalize zerosL 16 = z at *
  have HY := Lib.hid hy
  have HB := Lib.hid hB
  clear hy hB hV le lh lb hgy h
  unfold S GrowsTo at *
  go_enter Tryz.func159, Tryz.ntmps159
  go_wp2_with fail
  rw [← HB.out, ← HY.out]
  go_region_with
    (first
      | (go_at_call 62; (with_reducible refine (A1 _).mono ?_); rintro e w3 ⟨rfl, hg3⟩; have G3 := grow_drew hg3; have m0 := hg3.cell (a := ⟨B, 0, none⟩) k0 nofun; have m1 := hg3.cell (a := ⟨B, 1, none⟩) k1 nofun; have HG3 := Lib.hid (grow_trans (grow_drew (grow_refl y none)) hg3))
      | (go_at_call 98; (with_reducible refine (A2 _ (HGB.out.kept HG3.out)).mono ?_); rintro e w4 ⟨rfl, hg4⟩; have n0 := hg4.cell (a := ⟨B, 0, none⟩) m0 nofun; have n1 := hg4.cell (a := ⟨B, 1, none⟩) m1 nofun; have HG4 := Lib.hid (grow_trans HG3.out hg4))
      | (go_at_call 208; (with_reducible refine (A3 _).mono ?_); rintro e w5 ⟨rfl, hg5⟩; have o0 := hg5.cell (a := ⟨B, 0, none⟩) n0 nofun; have o1 := hg5.cell (a := ⟨B, 1, none⟩) n1 nofun; have HG5 := Lib.hid (grow_trans HG4.out hg5)))
  all_goals
    clear hg5 k0 k1 m0 m1 n0 n1 HG4 hg4 hg3 A1 A2 A3
    go_wp2_with fail
    (with_reducible refine (A4 _ (HGB.out.kept HG5.out)).mono ?_)
    rintro e w6 ⟨rfl, hg6⟩
    go_wp2_with fail
    (with_reducible refine (A5 _).mono ?_)
    rintro e w7 ⟨rfl, hg7⟩
    have HF := grow_trans (grow_trans (grow_trans HGY.out HG5.out) hg6) hg7
    go_wp2_with fail
    go_ret
    exact ⟨rfl, HF⟩

/-- What the check answers. -/
def gcheckE (key nonce more text : List UInt8) (most : Nat) : Int := if key.length = 32 ∧ nonce.length = 12 then (if more.length ≤ 2000 ∧ text.length ≤ most then 0 else 2) else 1

set_option maxRecDepth 100000 in
set_option maxHeartbeats 1000000 in
theorem code_gcheck (w : World) (key nonce more text : List UInt8) (most : Nat) (hm : most ≤ 100000) :
    Calls Tryz.prog 157 #[S key, S nonce, S more, S text, .int .i64 most] w fun e w' => e = .returned (.int .i64 (gcheckE key nonce more text most)) ∧ w = w' := by
  obtain ⟨V, hV⟩ : ∃ V, V = gcheckE key nonce more text most := ⟨_, rfl⟩
  rw [← hV]
  have HV := Lib.hid hV
  clear hV
  unfold S
  by_cases h1 : key.length = 32
  · have q1 : ((key.length : Int) != 32) = false := by simp; omega
    by_cases h2 : nonce.length = 12
    · have q2 : ((nonce.length : Int) != 12) = false := by simp; omega
      by_cases h3 : more.length ≤ 2000
      · have q3 : decide ((2000 : Int) < (more.length : Int)) = false := by simp; omega
        by_cases h4 : text.length ≤ most
        · have q4 : ¬ most < text.length := by omega
          have HR := Lib.hid (show V = 0 from by rw [HV.out]; unfold gcheckE; rw [if_pos ⟨h1, h2⟩, if_pos ⟨h3, h4⟩])
          clear h1 h2 h3 h4 HV
          go_enter Tryz.func157, Tryz.ntmps157
          go_wp2_with fail
          go_ret
          exact ⟨by rw [HR.out]; rfl, rfl⟩
        · have q4 : most < text.length := by omega
          have HR := Lib.hid (show V = 2 from by rw [HV.out]; unfold gcheckE; rw [if_pos ⟨h1, h2⟩, if_neg (by omega)])
          clear h1 h2 h3 h4 HV
          go_enter Tryz.func157, Tryz.ntmps157
          go_wp2_with fail
          go_ret
          exact ⟨by rw [HR.out]; rfl, rfl⟩
      · have q3 : decide ((2000 : Int) < (more.length : Int)) = true := by simp; omega
        have HR := Lib.hid (show V = 2 from by rw [HV.out]; unfold gcheckE; rw [if_pos ⟨h1, h2⟩, if_neg (by omega)])
        clear h1 h2 h3 HV
        go_enter Tryz.func157, Tryz.ntmps157
        go_wp2_with fail
        go_ret
        exact ⟨by rw [HR.out]; rfl, rfl⟩
    · have q2 : ((nonce.length : Int) != 12) = true := by simp; omega
      have HR := Lib.hid (show V = 1 from by rw [HV.out]; unfold gcheckE; rw [if_neg (by omega)])
      clear h1 h2 HV
      go_enter Tryz.func157, Tryz.ntmps157
      go_wp2_with fail
      go_ret
      exact ⟨by rw [HR.out]; rfl, rfl⟩
  · have q1 : ((key.length : Int) != 32) = true := by simp; omega
    have HR := Lib.hid (show V = 1 from by rw [HV.out]; unfold gcheckE; rw [if_neg (by omega)])
    clear h1 HV
    go_enter Tryz.func157, Tryz.ntmps157
    go_wp2_with fail
    go_ret
    exact ⟨by rw [HR.out]; rfl, rfl⟩


def gnoE (n : Int) : Value := .tuple #[S [], .int .i64 n]
def GSaid (l : List UInt8) (w : World) (e : Ending) (w' : World) : Prop := e = .returned (.tuple #[S l, .int .i64 0]) ∧ w.grownBy w' none

theorem code_gseal_err (w : World) (key nonce more text : List UInt8) (n : Int) (h : gcheckE key nonce more text 2000 = n) (hn : (n == 0) = false) :
    Calls Tryz.prog 102 #[S key, S nonce, S more, S text] w fun e w' => e = .returned (gnoE n) ∧ w = w' := by
  have H := Lib.hid h
  have hn2 : (n != 0) = true := by simpa using hn
  clear h
  unfold S gnoE
  go_enter Tryz.func102, Tryz.ntmps102
  go_wp2_with fail
  refine (code_gcheck w key nonce more text 2000 (by omega)).mono ?_
  rintro e w1 ⟨rfl, rfl⟩
  rw [H.out]
  go_wp2_with fail
  go_ret2
  exact ⟨rfl, rfl⟩

set_option maxRecDepth 100000 in
set_option maxHeartbeats 1000000 in
theorem code_gseal (w : World) (key nonce more text : List UInt8) (hk : key.length = 32) (hn : nonce.length = 12) (hm : more.length ≤ 2000) (ht : text.length ≤ 2000) :
    Calls Tryz.prog 102 #[S key, S nonce, S more, S text] w (GSaid (gsealL key nonce more text) w) := by
  have H := Lib.hid (show gcheckE key nonce more text 2000 = 0 from by unfold gcheckE; rw [if_pos ⟨hk, hn⟩, if_pos ⟨hm, ht⟩])
  have hV : gsealL key nonce more text = gcxL key nonce text ++ gtagL key nonce more (gcxL key nonce text) := rfl
  generalize gsealL key nonce more text = V at *
  have lc := gcxL_length key nonce text hk hn
  have lt := gtagL_length key nonce more (gcxL key nonce text) hk hn
  have A0 : ∀ W : World, Calls Tryz.prog 149 #[S key] W (NewC W key) := fun W => code_anew W key (Or.inr hk)
  have A1 : ∀ (W : World) (C T : Nat), GBox W C T key → Calls Tryz.prog 158 #[.agg #[.pointer (some ⟨C, 0, none⟩), S nonce], S text] W (Grown (S (gcxL key nonce text)) W) := fun W C T hW => code_gxored W C T key nonce text hW hk hn (by omega)
  have A2 : ∀ (W : World) (C T : Nat), GBox W C T key → Calls Tryz.prog 159 #[.agg #[.pointer (some ⟨C, 0, none⟩), S nonce], S more, S (gcxL key nonce text)] W (Grown (S (gtagL key nonce more (gcxL key nonce text))) W) := fun W C T hW => code_gtag W C T key nonce more _ hW hk hn hm (by omega)
  generalize gtagL key nonce more (gcxL key nonce text) = TG at *
  generalize gcxL key nonce text = CT at *
  have HV := Lib.hid hV
  have k1 : CT.length + TG.length ≤ 9223372036854775807 := by omega
  have r1 := rule_app
  clear hV lc lt
  have HC := Lib.hid (fun W : World => code_gcheck W key nonce more text 2000 (by omega))
  clear hk hn hm ht
  unfold S GSaid at *
  go_enter Tryz.func102, Tryz.ntmps102
  go_wp2_with fail
  refine (HC.out _).mono ?_
  rintro e w1 ⟨rfl, rfl⟩
  rw [H.out]
  go_wp2_with fail
  (with_reducible refine (A0 _).mono ?_)
  rintro e w2 ⟨C, T, rfl, hC, hT, hC1, hT1, hg2⟩
  have HGB := Lib.hid (show GBox w2 C T key from ⟨hC, hT⟩)
  clear hC hT A0
  go_wp2_with fail
  obtain ⟨x, hx⟩ : ∃ x, x = w2.alloc (.cells #[.pointer (some ⟨C, 0, none⟩), .string ⟨nonce.toArray⟩] 237) := ⟨_, rfl⟩
  obtain ⟨B, hB⟩ : ∃ B, B = w2.heap.size := ⟨_, rfl⟩
  have hgx : w2.grownBy x none := by rw [hx]; exact grow_alloc (grow_refl w2 none) _
  have k0 : x.cell? ⟨B, 0, none⟩ = some (.pointer (some ⟨C, 0, none⟩)) := by rw [hx, hB, obj_cell (obj_new w2 _)]; rfl
  have k2 : x.cell? ⟨B, 1, none⟩ = some (.string ⟨nonce.toArray⟩) := by rw [hx, hB, obj_cell (obj_new w2 _)]; rfl
  rw [← hx, ← hB]
  have HGX := Lib.hid hgx
  clear hx hB hgx
  (with_reducible refine (A1 _ C T (HGB.out.kept HGX.out)).mono ?_)
  rintro e w3 ⟨rfl, hg3⟩
  have m0 := hg3.cell (a := ⟨B, 0, none⟩) k0 nofun
  have m1 := hg3.cell (a := ⟨B, 1, none⟩) k2 nofun
  have HG3 := Lib.hid (grow_trans HGX.out hg3)
  clear k0 k2 hg3 A1
  go_wp2_with fail
  (with_reducible refine (A2 _ C T (HGB.out.kept HG3.out)).mono ?_)
  rintro e w4 ⟨rfl, hg4⟩
  have HF := grow_trans (grow_trans hg2 HG3.out) hg4
  go_wp2_with fail
  rw [HV.out]
  go_ret2
  exact ⟨rfl, HF⟩

end Go.Proofs.YtmomfbkpniblgaaGreatDoor
