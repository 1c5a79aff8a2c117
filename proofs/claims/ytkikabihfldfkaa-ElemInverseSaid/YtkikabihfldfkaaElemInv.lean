/- Numbers modulo 2^255 - 19: inverses of texts. -/
import Derived.Test.YtkikabihfldfkaaElemInvPlain
namespace Go.Proofs.Ytkikabihfldfkaa
open Go.RowKit
set_option linter.unusedVariables false

def invW (al : Nat) : List Nat := [al - 20, al, al, al / 2]

set_option maxHeartbeats 2000000 in
theorem code_ninv1 (w : World) (a b : List Nat) (ha : Ok5 a) (hb : Ok5 b) (K al : Nat) (hn : al < 18446744073709551616) (hn2 : 20 ≤ al) (hc : ∀ V, w.grownBy V none → V.cell? ⟨K, 0, none⟩ = some (.int .u64 (al : Int))) :
    Calls Try.prog 39 #[N5 a, N5 b, .pointer (some ⟨K, 0, none⟩)] w (FunIs a b (fun x y z => z % PP = x ^ wval (invW al) % PP) w) := by
  obtain ⟨a0, a1, a2, a3, a4, ea⟩ := five ha.length
  obtain ⟨b0, b1, b2, b3, b4, eb⟩ := five hb.length
  have HA := Lib.hid ha
  have HE := Lib.hid ea
  have hNa : N5 a = .agg #[.int .u64 (a0 : Int), .int .u64 (a1 : Int), .int .u64 (a2 : Int), .int .u64 (a3 : Int), .int .u64 (a4 : Int)] := by rw [ea]; rfl
  have hNb : N5 b = .agg #[.int .u64 (b0 : Int), .int .u64 (b1 : Int), .int .u64 (b2 : Int), .int .u64 (b3 : Int), .int .u64 (b4 : Int)] := by rw [eb]; rfl
  rw [hNa, hNb]
  obtain ⟨x, hx⟩ : ∃ x, x = ((w.alloc (.cells #[.int .u64 (a0 : Int), .int .u64 (a1 : Int), .int .u64 (a2 : Int), .int .u64 (a3 : Int), .int .u64 (a4 : Int)] 55)).alloc (.cells #[.int .u64 (b0 : Int), .int .u64 (b1 : Int), .int .u64 (b2 : Int), .int .u64 (b3 : Int), .int .u64 (b4 : Int)] 55)).alloc (.cells #[.int .u64 0, .int .u64 0, .int .u64 0, .int .u64 0, .int .u64 0] 55) := ⟨_, rfl⟩
  obtain ⟨B, hB⟩ : ∃ B, B = w.heap.size := ⟨_, rfl⟩
  have hgx : w.grownBy x none := by rw [hx]; exact grow_alloc (grow_alloc (grow_alloc (grow_refl w none) _) _) _
  have bA : NB x B [a0, a1, a2, a3, a4] := by rw [hx, hB]; exact obj_alloc (obj_alloc (obj_new _ _))
  have bR : NB x (B + 1 + 1) [0, 0, 0, 0, 0] := by
    rw [hx]
    have := obj_new ((w.alloc (.cells #[.int .u64 (a0 : Int), .int .u64 (a1 : Int), .int .u64 (a2 : Int), .int .u64 (a3 : Int), .int .u64 (a4 : Int)] 55)).alloc (.cells #[.int .u64 (b0 : Int), .int .u64 (b1 : Int), .int .u64 (b2 : Int), .int .u64 (b3 : Int), .int .u64 (b4 : Int)] 55)) (.cells #[.int .u64 0, .int .u64 0, .int .u64 0, .int .u64 0, .int .u64 0] 55)
    rw [show ((w.alloc (.cells #[.int .u64 (a0 : Int), .int .u64 (a1 : Int), .int .u64 (a2 : Int), .int .u64 (a3 : Int), .int .u64 (a4 : Int)] 55)).alloc (.cells #[.int .u64 (b0 : Int), .int .u64 (b1 : Int), .int .u64 (b2 : Int), .int .u64 (b3 : Int), .int .u64 (b4 : Int)] 55)).heap.size = B + 1 + 1 from by rw [hB]; simp] at this
    exact this
  have cK := hc x hgx
  obtain ⟨⟨p0, p1, p2, p3, p4⟩, _⟩ := bA.five
  have HX := Lib.hid hx
  have HB := Lib.hid hB
  have HG := Lib.hid hgx
  have HR := Lib.hid bR
  have AP : Calls Try.prog 37 #[.agg #[.int .u64 (a0 : Int), .int .u64 (a1 : Int), .int .u64 (a2 : Int), .int .u64 (a3 : Int), .int .u64 (a4 : Int)], .slice (some ⟨x.heap.size, 0, none⟩) 4 4] (x.alloc (.cells #[.int .u64 ((al : Int) - 20), .int .u64 (al : Int), .int .u64 (al : Int), .int .u64 ((al : Int) / 2)] 30)) (PowIs a (wval (invW al)) (x.alloc (.cells #[.int .u64 ((al : Int) - 20), .int .u64 (al : Int), .int .u64 (al : Int), .int .u64 ((al : Int) / 2)] 30))) := by
    have := code_npower (x.alloc (.cells #[.int .u64 (((al - 20 : Nat)) : Int), .int .u64 (al : Int), .int .u64 (al : Int), .int .u64 ((al / 2 : Nat) : Int)] 30)) a HA.out x.heap.size 30 (invW al) (obj_new _ _) (by unfold invW; simp; omega) (by simp [invW])
    rw [hNa, show (((al - 20 : Nat)) : Int) = (al : Int) - 20 from by omega, show ((al / 2 : Nat) : Int) = (al : Int) / 2 from by omega] at this
    exact this
  generalize wval (invW al) = n at *
  clear ha hb ea eb hNa hNb hx hB hgx bA bR hc
  have a1' : (al : Int) < 18446744073709551616 := by omega
  have a2' : (20 : Int) ≤ (al : Int) := by omega
  clear hn hn2
  go_enter Try.func39, Try.ntmps39
  go_upto_region 1 with (fail)
  rw [← HB.out, ← HX.out]
  go_wp2_with fail
  (with_reducible refine AP.mono ?_)
  rintro e w2 ⟨L, rfl, hP, hg2⟩
  obtain ⟨r0, r1, r2, r3, r4, eL⟩ := five hP.1.length
  have hN : N5 L = .agg #[.int .u64 (r0 : Int), .int .u64 (r1 : Int), .int .u64 (r2 : Int), .int .u64 (r3 : Int), .int .u64 (r4 : Int)] := by rw [eL]; rfl
  rw [hN]
  have bR2 : NB w2 (B + 1 + 1) [0, 0, 0, 0, 0] := Blk.kept (obj_alloc HR.out) hg2 nofun
  obtain ⟨⟨z0, z1, z2, z3, z4⟩, f0, f1, f2, f3, f4⟩ := bR2.five
  have HP := Lib.hid hP
  have HEL := Lib.hid eL
  have hfin := Lib.hid (grow5 (B := B + 1 + 1) (grow_trans (grow_alloc HG.out _) hg2) (by have := HB.out; omega) (.int .u64 (r0 : Int)) (.int .u64 (r1 : Int)) (.int .u64 (r2 : Int)) (.int .u64 (r3 : Int)) (.int .u64 (r4 : Int)))
  clear hP eL hN bR2 hg2 p0 p1 p2 p3 p4 cK AP
  go_wp2_with fail
  refine bodyPost_ret (v := .agg #[.int .u64 (r0 : Int), .int .u64 (r1 : Int), .int .u64 (r2 : Int), .int .u64 (r3 : Int), .int .u64 (r4 : Int)]) (by simp [results, Try.results39, go_sem, z0, z1, z2, z3, z4]) rfl ?_
  exact ⟨L, by have e := HEL.out; rw [e]; rfl, HP.out.1, HP.out.2, hfin.out⟩

theorem invW_val : wval (invW 18446744073709551615) = PP - 2 := wval_inv

set_option maxHeartbeats 2000000 in
theorem code_ninv (w : World) (s : List UInt8) (hs : s.length = 32) : Calls Try.prog 21 #[S s] w (Said (invM s) w) := by
  obtain ⟨B, hB⟩ : ∃ B, B = w.heap.size := ⟨_, rfl⟩
  obtain ⟨x, hx⟩ : ∃ x, x = w.alloc (.cells #[.int .u64 18446744073709551615] 30) := ⟨_, rfl⟩
  have bK : KB x B 30 [18446744073709551615] := by rw [hx, hB]; exact obj_new _ _
  have A : Calls Try.prog 35 #[S s, S s, .func (.func 39) #[] #[.pointer (some ⟨B, 0, none⟩)]] x (Said (invM s) x) :=
    (code_ntwo x s s hs hs _ #[.pointer (some ⟨B, 0, none⟩)] (fun x y z => z % PP = x ^ wval (invW 18446744073709551615) % PP) (fun x y W => rfl) (fun V a b oa ob hV => code_ninv1 V a b oa ob B 18446744073709551615 (by omega) (by omega) fun U hU => KB.cell (l := [18446744073709551615]) (Blk.kept (Blk.kept bK hV nofun) hU nofun) 0 (by simp))).mono
      (two_val s s x _ _ fun x y z h1 h2 h3 => by rw [h3, invW_val, Nat.pow_mod, h1, ← Nat.pow_mod]; rfl)
  have hgx : w.grownBy x none := by rw [hx]; exact grow_alloc (grow_refl w none) _
  unfold Said S at A
  unfold Said S
  generalize invM s = V at *
  have HB := Lib.hid hB
  have HX := Lib.hid hx
  clear bK hB hx
  go_enter Try.func21, Try.ntmps21
  go_upto_region 2 with (fail)
  rw [← HB.out, ← HX.out]
  go_wp2_with fail
  (with_reducible refine A.mono ?_)
  rintro e w1 ⟨rfl, hg⟩
  go_wp2_with fail
  refine bodyPost_ret (v := .tuple #[.string ⟨V.toArray⟩, .int .i64 0]) (by simp [results, Try.results21, go_sem]) rfl ?_
  exact ⟨rfl, grow_trans hgx hg⟩

end Go.Proofs.Ytkikabihfldfkaa
