/-
  Several texts of this claim in one: KdfSum, KdfDerive.
-/
import Derived.Test.YtcmncdaojmkfgaaGreatDoorKdf
import Derived.Test.YtcmncdaojmkfgaaGreatDoorQ02
import Derived.Test.YtcmncdaojmkfgaaGreatDoorR09
namespace Go.Proofs.YtcmncdaojmkfgaaGreatDoor
open Go.RowKit
set_option linter.unusedVariables false

set_option maxHeartbeats 1000000 in
theorem code_ksum (w : World) (suite : Nat) (h12 : suite = 1 ∨ suite = 2) (s : List UInt8) (hs : s.length ≤ 9223372036854775000) :
    Calls Tryz.prog 62 #[.int .i64 (suite : Int), S s] w (Grown (.tuple #[S (hashM suite s), .int .i64 0]) w) := by
  rcases h12 with rfl | rfl
  · have A1 : ∀ W : World, Calls Tryz.prog 92 #[S s] W (Grown (S (hashM 1 s)) W) := fun W => hash_bl W s hs
    generalize hashM 1 s = V at *
    unfold S at *
    clear hs
    show Calls Tryz.prog 62 #[.int .i64 1, _] w _
    have nf := no_nil1
    go_enter Tryz.func62, Tryz.ntmps62
    go_wp2_with fail
    (with_reducible refine (code_hashOf1 _).mono ?_)
    rintro e x1 ⟨rfl, rfl⟩
    go_wp2_with fail
    (with_reducible refine (A1 _).mono ?_)
    rintro e x1 ⟨rfl, hg⟩
    go_wp2_with fail
    go_ret2
    exact ⟨rfl, hg⟩
  · have A1 : ∀ W : World, Calls Tryz.prog 94 #[S s] W (Grown (S (hashM 2 s)) W) := fun W => hash_sh W s (by omega)
    generalize hashM 2 s = V at *
    unfold S at *
    clear hs
    show Calls Tryz.prog 62 #[.int .i64 2, _] w _
    have nf := no_nil2
    go_enter Tryz.func62, Tryz.ntmps62
    go_wp2_with fail
    (with_reducible refine (code_hashOf2 _).mono ?_)
    rintro e x1 ⟨rfl, rfl⟩
    go_wp2_with fail
    (with_reducible refine (A1 _).mono ?_)
    rintro e x1 ⟨rfl, hg⟩
    go_wp2_with fail
    go_ret2
    exact ⟨rfl, hg⟩

end Go.Proofs.YtcmncdaojmkfgaaGreatDoor

namespace Go.Proofs.YtcmncdaojmkfgaaGreatDoor
open Go.RowKit
set_option linter.unusedVariables false

def lastM (suite : Nat) (p : List UInt8) : Nat → List UInt8
  | 0 => []
  | i + 1 => macM suite p (lastM suite p i ++ [UInt8.ofNat (i + 1)])
def outM (suite : Nat) (p : List UInt8) (n : Nat) : List (List UInt8) := (List.range n).map fun i => lastM suite p (i + 1)
theorem outM_length (suite : Nat) (p : List UInt8) (n : Nat) : (outM suite p n).length = n := by simp [outM]
theorem outM_succ (suite : Nat) (p : List UInt8) (n : Nat) : outM suite p (n + 1) = outM suite p n ++ [lastM suite p (n + 1)] := by
  unfold outM
  rw [List.range_succ, List.map_append]
  rfl
theorem lastM_length (suite : Nat) (p : List UInt8) (i : Nat) : (lastM suite p i).length ≤ 32 := by
  cases i with
  | zero => simp [lastM]
  | succ i => rw [lastM, macM_length]; omega

def DerIs (ls : List (List UInt8)) (w : World) (e : Ending) (w' : World) : Prop := ∃ v, e = .returned (.tuple #[v, .int .i64 0]) ∧ srow w' w.heap.size v ls ∧ w.grownBy w' none

/-- A byte in a new block, as a string. -/
theorem conv_byte (w : World) (n : Nat) (c : UInt8) (hc : c.toNat = n) : (convert 90 9 (.slice (some ⟨w.heap.size, 0, none⟩) 1 1)).run Tryz.prog (w.alloc (.cells #[.int .u8 (n : Int)] 5)) = .ok (.string ⟨#[c]⟩) (w.alloc (.cells #[.int .u8 (n : Int)] 5)) := by
  subst hc
  have h : Bys (w.alloc (.cells #[.int .u8 (c.toNat : Int)] 5)) w.heap.size [c] := fun i hi => by
    have hi0 : i = 0 := by simp at hi; omega
    subst hi0
    exact ⟨by rw [obj_cell (obj_new w _)]; rfl, obj_frozen (obj_new w _) 0⟩
  exact conv_bys h 1

set_option maxHeartbeats 2000000 in
theorem code_derive (w : World) (suite : Nat) (h12 : suite = 1 ∨ suite = 2) (key s : List UInt8) (n : Nat) (n1 : 1 ≤ n) (n3 : n ≤ 3) (hk : key.length ≤ 9223372036854775000) (hs : s.length ≤ 9223372036854774000) :
    Calls Tryz.prog 61 #[.int .i64 (suite : Int), S key, S s, .int .i64 (n : Int)] w (DerIs (outM suite (macM suite key s) n) w) := by
  have A1 := fun W : World => code_mac W suite h12 key s hk hs
  have lp := macM_length suite key s
  generalize macM suite key s = p at *
  have A2 := fun (W : World) (t : List UInt8) (ht : t.length ≤ 100) => code_mac W suite h12 p t (by omega) (by omega)
  have k1 : ¬ ((n : Int) < 1) := by omega
  have k2 : ¬ ((3 : Int) < (n : Int)) := by omega
  have r1 := rule_app
  have su2 : suite ≤ 2 := by omega
  have HA2 := Lib.hid A2
  have HLL := Lib.hid (lastM_length suite p)
  unfold S at A1 ⊢
  clear h12 hk hs lp A2
  go_enter Tryz.func61, Tryz.ntmps61
  go_wp2_with fail
  (with_reducible refine (A1 _).mono ?_)
  rintro e x ⟨rfl, hg⟩
  have HG := Lib.hid hg
  have HR : Hid (srow x w.heap.size (.slice none 0 0) []) := Lib.hid (World.ownsRow_nil _ _ _ _)
  clear hg A1
  go_wp2_with fail
  go_loopw [12, 13, 33] (fun v12 v13 v33 wr => ∃ i : Nat, i ≤ n ∧ v33 = .int .i64 i ∧ Hid (v13 = .string ⟨(lastM suite p i).toArray⟩) ∧ Hid (srow wr w.heap.size v12 (outM suite p i)) ∧ Hid (w.grownBy wr none)) (fun _ _ v33 _ => n - (intOf v33).toNat)
  case atStart => exact ⟨0, by omega, rfl, Lib.hid rfl, HR, HG⟩
  case round =>
    clear HR HG
    obtain ⟨i, hi, rfl, h13, hr, hg⟩ := hrel
    obtain ⟨l, hl⟩ : ∃ l, l = lastM suite p i := ⟨_, rfl⟩
    have e13 := h13.out
    rw [← hl] at e13
    subst e13
    clear h13
    by_cases hlt : i < n
    · obtain ⟨k, hk, hk3⟩ : ∃ k : Nat, (i : Int) + 1 = (k : Int) ∧ k = i + 1 := ⟨i + 1, by omega, rfl⟩
      have hc : (UInt8.ofNat k).toNat = k := by rw [UInt8.toNat_ofNat']; omega
      have hcv := conv_byte wr k (UInt8.ofNat k) hc
      have ll : l.length ≤ 32 := by rw [hl]; exact HLL.out i
      have hstep : lastM suite p (i + 1) = macM suite p (l ++ [UInt8.ofNat k]) := by rw [lastM, hl, hk3]
      have A3 : ∀ W : World, Calls Tryz.prog 77 #[.int .i64 (suite : Int), S p, S (l ++ [UInt8.ofNat k])] W (Grown (.tuple #[S (lastM suite p (i + 1)), .int .i64 0]) W) := fun W => by
        rw [hstep]
        exact HA2.out W (l ++ [UInt8.ofNat k]) (by rw [List.length_append]; simp; omega)
      clear hstep
      have hnx := outM_succ suite p i
      obtain ⟨nx, hnx2⟩ : ∃ nx, nx = lastM suite p (i + 1) := ⟨_, rfl⟩
      rw [← hnx2] at A3 hnx
      have HNX := Lib.hid hnx
      have HN2 := Lib.hid hnx2
      have lo := outM_length suite p i
      have q1 : (k : Int) % 256 = (k : Int) := by omega
      have q2 : IntKind.u8.wrap (k : Int) = (k : Int) := by rw [IntKind.wrap_u8]; omega
      have q3 : l.length + 1 ≤ 9223372036854775807 := by omega
      have hd : decide ((i : Int) < (n : Int)) = true := by simp; omega
      generalize UInt8.ofNat k = c at *
      have HLO := Lib.hid lo
      have hgz := hg.out.size
      clear hl hk3 hnx hnx2 hc lo
      unfold S at A3
      go_wp2_with fail
      (with_reducible refine (A3 _).mono ?_)
      rintro e x2 ⟨rfl, hg2⟩
      replace hg2 := grow_trans (World.grownBy_alloc wr _ none) hg2
      have hg3 := grow_trans hg.out hg2
      have hrx : x2.ownsRow w.heap.size 9 1 u12 (outM suite p i).length ((outM suite p i).map S) := hr.out.kept hg2 (by cases u12.ownBlock <;> simp)
      have hsx : w.heap.size ≤ x2.heap.size := hg3.size
      have HG3 := Lib.hid hg3
      have HRX := Lib.hid hrx
      clear hr hg hg2 hg3 hrx A3 hgz
      go_wp2_with (at_builtin; go_must (refine append_one rfl _ _ 41 rfl w.heap.size 9 (.string ⟨#[]⟩) 16 Tryz.underlying41 info_str rfl _ _ _ rfl HRX.out (S nx) rfl rfl (by omega) (by rw [HLO.out]; omega) hsx ?_))
      intro v' w' hown' hg'
      have HO := Lib.hid hown'
      have HG' := Lib.hid hg'
      clear hown' hg'
      go_wp2_with fail
      go_roundw
      case rel =>
        refine ⟨i + 1, by omega, by go_num, Lib.hid (by rw [HN2.out]), Lib.hid ?_, Lib.hid ?_⟩
        · unfold srow
          rw [HNX.out, List.length_append, List.map_append]
          exact HO.out
        · rcases hown : u12.ownBlock with _ | b
          · rw [hown] at HG'
            exact grow_trans HG3.out HG'.out
          · rw [hown] at HG'
            exact grow_trans_new HG3.out HG'.out (by
              rcases HRX.out.2 with ⟨e, _⟩ | ⟨g, cap, cur, hv, hbg, _⟩
              · rw [e] at hown; simp [Value.ownBlock] at hown
              · rw [hv] at hown
                have : g = b := by simpa [Value.ownBlock] using hown
                omega)
      case measure => simp [intOf]; omega
    · obtain rfl : i = n := by omega
      have hd : decide ((i : Int) < (i : Int)) = false := by simp
      go_wp2_with fail
      refine bodyPost_ret (v := .tuple #[u12, .int .i64 0]) (by simp [results, Tryz.results61, go_sem]) rfl ?_
      exact ⟨_, rfl, hr.out, hg.out⟩

end Go.Proofs.YtcmncdaojmkfgaaGreatDoor
