/- The walks of the two statements on bytes. -/
import Derived.Test.YtfiokecaadinaaaGalois
import Derived.Test.YtfiokecaadinaaaOpen
namespace Go.Proofs.Ytfiokecaadinaaa
open Go.RowKit
set_option linter.unusedVariables false

theorem byte_of {a : Int} (h : (Lit.int .u8 a).wf = true) : ∃ n : Nat, a = (n : Int) ∧ n < 256 := by
  have := bounds_u8 h
  obtain ⟨n, rfl⟩ := Int.eq_ofNat_of_zero_le this.1
  exact ⟨n, rfl, by omega⟩

set_option maxHeartbeats 1000000 in
theorem walk_GaloisField (a0 a1 a2 : Int) (w0 : (Lit.int .u8 a0).wf = true) (w1 : (Lit.int .u8 a1).wf = true) (w2 : (Lit.int .u8 a2).wf = true) (w : World) :
    Calls Try.prog 6 #[.int .u8 a0, .int .u8 a1, .int .u8 a2] w fun e w' => e = .returned (.bool true) ∧ Below w.heap.size w w' := by
  obtain ⟨a, rfl, ha⟩ := byte_of w0
  obtain ⟨b, rfl, hb⟩ := byte_of w1
  obtain ⟨c, rfl, hc⟩ := byte_of w2
  clear w0 w1 w2
  have l1 := gmul_lt ha b
  have l2 := gmul_lt hb c
  have l3 := gmul_lt ha c
  have hx : bits .xor .u8 (b : Int) (c : Int) = ((b ^^^ c : Nat) : Int) := u8_xor_nat _ _ hb hc
  have hy : bits .xor .u8 ((gmul a b : Nat) : Int) ((gmul a c : Nat) : Int) = ((gmul a b ^^^ gmul a c : Nat) : Int) := u8_xor_nat _ _ l1 l3
  go_enter Try.func6, Try.ntmps6
  go_wp2_with fail
  refine (galois_mul 2 128 _ (by omega) (by omega)).mono ?_
  rintro e w' ⟨rfl, rfl⟩
  rw [show gmul 2 128 = 27 from by decide +kernel]
  go_wp2_with fail
  refine (galois_mul a b _ ha hb).mono ?_
  rintro e w' ⟨rfl, rfl⟩
  go_wp2_with fail
  refine (galois_mul b a _ hb ha).mono ?_
  rintro e w' ⟨rfl, rfl⟩
  rw [gmul_comm hb a ha]
  go_wp2_with fail
  refine (galois_mul a b _ ha hb).mono ?_
  rintro e w' ⟨rfl, rfl⟩
  go_wp2_with fail
  refine (galois_mul (gmul a b) c _ l1 hc).mono ?_
  rintro e w' ⟨rfl, rfl⟩
  rw [gmul_assoc ha hb c hc]
  go_wp2_with fail
  refine (galois_mul b c _ hb hc).mono ?_
  rintro e w' ⟨rfl, rfl⟩
  go_wp2_with fail
  refine (galois_mul a (gmul b c) _ ha l2).mono ?_
  rintro e w' ⟨rfl, rfl⟩
  go_wp2_with fail
  refine (galois_mul a (b ^^^ c) _ ha (xor_lt hb hc)).mono ?_
  rintro e w' ⟨rfl, rfl⟩
  rw [gmul_xor_r]
  go_wp2_with fail
  refine (galois_mul a b _ ha hb).mono ?_
  rintro e w' ⟨rfl, rfl⟩
  go_wp2_with fail
  refine (galois_mul a c _ ha hc).mono ?_
  rintro e w' ⟨rfl, rfl⟩
  go_wp2_with fail
  refine (galois_mul a 1 _ ha (by omega)).mono ?_
  rintro e w' ⟨rfl, rfl⟩
  rw [gmul_one ha]
  have hz := gmul_eq_zero ha hb
  clear hx hy
  go_wp2_with fail
  refine (galois_mul a b _ ha hb).mono ?_
  rintro e w' ⟨rfl, rfl⟩
  by_cases ea : a = 0
  · have hm : gmul a b = 0 := hz.2 (Or.inl ea)
    have hi : ginv a = 0 := by rw [ea]; decide +kernel
    have ba : ((a : Int) == 0) = true := by rw [beq_iff_eq]; omega
    rw [hm]
    have HI := Lib.hid hi
    clear hz hm ea hi
    go_wp2_with fail
    refine (galois_inv a _ ha).mono ?_
    rintro e w' ⟨rfl, rfl⟩
    rw [HI.out]
    go_wp2_with fail
    go_ret
    exact ⟨rfl, Below.refl _ _⟩
  · have ba : ((a : Int) == 0) = false := by rw [beq_eq_false_iff_ne]; omega
    have ba' : ((a : Int) != 0) = true := by rw [bne_iff_ne]; omega
    have hi := gmul_inv ha ea
    have HI := Lib.hid hi
    clear hi
    by_cases eb : b = 0
    · have hm : gmul a b = 0 := hz.2 (Or.inr eb)
      have bb : ((b : Int) == 0) = true := by rw [beq_iff_eq]; omega
      rw [hm]
      clear hz hm ea eb
      go_wp2_with fail
      refine (galois_inv a _ ha).mono ?_
      rintro e w' ⟨rfl, rfl⟩
      go_wp2_with fail
      refine (galois_mul a (ginv a) _ ha (ginv_lt ha)).mono ?_
      rintro e w' ⟨rfl, rfl⟩
      rw [HI.out]
      go_wp2_with fail
      go_ret
      exact ⟨rfl, Below.refl _ _⟩
    · have bb : ((b : Int) == 0) = false := by rw [beq_eq_false_iff_ne]; omega
      have hm : (((gmul a b : Nat) : Int) == 0) = false := by
        rw [beq_eq_false_iff_ne]
        intro h
        rcases hz.1 (by omega) with h | h
        · exact ea h
        · exact eb h
      clear hz ea eb
      go_wp2_with fail
      refine (galois_inv a _ ha).mono ?_
      rintro e w' ⟨rfl, rfl⟩
      go_wp2_with fail
      refine (galois_mul a (ginv a) _ ha (ginv_lt ha)).mono ?_
      rintro e w' ⟨rfl, rfl⟩
      rw [HI.out]
      go_wp2_with fail
      go_ret
      exact ⟨rfl, Below.refl _ _⟩

set_option maxHeartbeats 1000000 in
theorem walk_GaloisBack (a0 a1 : Int) (w0 : (Lit.int .u8 a0).wf = true) (w1 : (Lit.int .u8 a1).wf = true) (w : World) :
    Calls Try.prog 7 #[.int .u8 a0, .int .u8 a1] w fun e w' => e = .returned (.bool true) ∧ Below w.heap.size w w' := by
  obtain ⟨a, rfl, ha⟩ := byte_of w0
  obtain ⟨b, rfl, hb⟩ := byte_of w1
  clear w0 w1
  obtain ⟨f1, f2, f3, f4⟩ := gback_sub ha
  have hinj := gsub_inj ha hb
  have hl := gsub_lt ha
  have g3 : (((gsub a : Nat) : Int) != a) = true := by rw [bne_iff_ne]; omega
  have hsg : IntKind.u8.signed = false := rfl
  have hn : bits .xor .u8 IntKind.u8.max (a : Int) = ((255 - a : Nat) : Int) := by
    have h : (List.range 256).all (fun a => 255 ^^^ a == 255 - a) = true := by decide +kernel
    have h2 : 255 ^^^ a = 255 - a := by simpa using all1_spec h ha
    rw [← h2]
    exact u8_xor_nat 255 a (by omega) ha
  generalize 255 - a = n at *
  have g4 : (((gsub a : Nat) : Int) != n) = true := by rw [bne_iff_ne]; omega
  have g5 : ¬ ((gsub a : Nat) : Int) = n := by omega
  clear f3 f4
  go_enter Try.func7, Try.ntmps7
  go_wp2_with fail
  refine (galois_sub a _ ha).mono ?_
  rintro e w' ⟨rfl, rfl⟩
  go_wp2_with fail
  refine (galois_back (gsub a) _ hl).mono ?_
  rintro e w' ⟨rfl, rfl⟩
  rw [f1]
  go_wp2_with fail
  refine (galois_back a _ ha).mono ?_
  rintro e w' ⟨rfl, rfl⟩
  go_wp2_with fail
  refine (galois_sub (gback a) _ (gback_lt ha)).mono ?_
  rintro e w' ⟨rfl, rfl⟩
  rw [f2]
  clear f1 f2
  go_wp2_with fail
  refine (galois_sub b _ hb).mono ?_
  rintro e w' ⟨rfl, rfl⟩
  by_cases hab : a = b
  · have h1 : (((gsub a : Nat) : Int) == (gsub b : Nat)) = true := by rw [beq_iff_eq, hinj.2 hab]
    have h2 : ((a : Int) == b) = true := by rw [beq_iff_eq]; omega
    clear hinj hab
    go_wp2_with fail
    go_ret
    exact ⟨rfl, Below.refl _ _⟩
  · have h1 : (((gsub a : Nat) : Int) == (gsub b : Nat)) = false := by
      rw [beq_eq_false_iff_ne]; intro h; exact hab (hinj.1 (by omega))
    have h2 : ((a : Int) == b) = false := by rw [beq_eq_false_iff_ne]; omega
    clear hinj hab
    go_wp2_with fail
    go_ret
    exact ⟨rfl, Below.refl _ _⟩

end Go.Proofs.Ytfiokecaadinaaa
