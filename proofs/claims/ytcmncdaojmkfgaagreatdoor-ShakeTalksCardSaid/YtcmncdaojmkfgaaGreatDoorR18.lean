/-
  Several texts of this claim in one: XorPlain, AesPlain, AesMade, AesBlock, AesCols.
-/
import Derived.Test.YtcmncdaojmkfgaaGreatDoorWxor
import Derived.Test.YtcmncdaojmkfgaaGreatDoorR09
import Derived.Test.YtcmncdaojmkfgaaGreatDoorQ02
import Derived.Lib.LazyBuf
import Derived.Deep.RegionWith
import Derived.Great.Walk
import Derived.StillTailTactics
namespace Go.Proofs.YtcmncdaojmkfgaaGreatDoor
set_option linter.unusedVariables false

theorem xorL_nil_right (s : List UInt8) : xorL s [] = [] := by cases s <;> rfl
theorem xorL_nil_left (s : List UInt8) : xorL [] s = [] := by cases s <;> rfl

theorem xorL_append : ∀ (b s r : List UInt8), xorL s (b ++ r) = xorL s b ++ xorL (s.drop b.length) r
  | [], s, r => by simp [xorL_nil_right]
  | c :: b, [], r => by simp [xorL_nil_left]
  | c :: b, d :: s, r => by
    have := xorL_append b s r
    simp only [xorL, List.cons_append, List.zipWith_cons_cons, List.length_cons, List.drop_succ_cons] at this ⊢
    rw [this]

theorem xorL_append_left : ∀ (s t b r : List UInt8), s.length = b.length → xorL (s ++ t) (b ++ r) = xorL s b ++ xorL t r
  | [], t, [], r, _ => rfl
  | c :: s, t, d :: b, r, h => by
    have := xorL_append_left s t b r (by simpa using h)
    simp only [xorL, List.cons_append, List.zipWith_cons_cons] at this ⊢
    rw [this]

theorem xorL_twice : ∀ (s K : List UInt8), s.length ≤ K.length → xorL (xorL s K) K = s
  | [], K, _ => by simp [xorL_nil_left]
  | c :: s, [], h => by simp at h
  | c :: s, k :: K, h => by
    have := xorL_twice s K (by simpa using h)
    simp only [xorL, List.zipWith_cons_cons] at this ⊢
    rw [this, UInt8.xor_assoc, UInt8.xor_self, UInt8.xor_zero]

theorem xorL_pair : ∀ (s t K : List UInt8), s.length ≤ K.length → t.length ≤ K.length → xorL (xorL s K) (xorL t K) = xorL s t
  | [], t, K, _, _ => by simp [xorL_nil_left]
  | c :: s, [], K, _, _ => by simp [xorL_nil_left, xorL_nil_right]
  | c :: s, d :: t, [], h, _ => by simp at h
  | c :: s, d :: t, k :: K, h1, h2 => by
    have := xorL_pair s t K (by simpa using h1) (by simpa using h2)
    simp only [xorL, List.zipWith_cons_cons] at this ⊢
    rw [this]
    congr 1
    rw [UInt8.xor_assoc, ← UInt8.xor_assoc k, UInt8.xor_comm k d, UInt8.xor_assoc d, UInt8.xor_self, UInt8.xor_zero]

theorem xorL_take (s K r : List UInt8) (h : s.length ≤ K.length) : xorL s (K ++ r) = xorL s K := by
  rw [xorL_append, List.drop_of_length_le h, xorL_nil_left, List.append_nil]

end Go.Proofs.YtcmncdaojmkfgaaGreatDoor

namespace Go.Proofs.YtcmncdaojmkfgaaGreatDoor
set_option linter.unusedVariables false

def gsubB (c : UInt8) : UInt8 := UInt8.ofNat (gsub c.toNat)
def gbackB (c : UInt8) : UInt8 := UInt8.ofNat (gback c.toNat)
def gmulB (a c : UInt8) : UInt8 := UInt8.ofNat (gmul a.toNat c.toNat)

theorem toNat_gsubB (c : UInt8) : (gsubB c).toNat = gsub c.toNat := by
  unfold gsubB; rw [UInt8.toNat_ofNat', Nat.mod_eq_of_lt (gsub_lt (u8_lt c))]
theorem toNat_gbackB (c : UInt8) : (gbackB c).toNat = gback c.toNat := by
  unfold gbackB; rw [UInt8.toNat_ofNat', Nat.mod_eq_of_lt (gback_lt (u8_lt c))]
theorem toNat_gmulB (a c : UInt8) : (gmulB a c).toNat = gmul a.toNat c.toNat := by
  unfold gmulB; rw [UInt8.toNat_ofNat', Nat.mod_eq_of_lt (gmul_lt (u8_lt a) _)]

theorem gback_gsub (c : UInt8) : gbackB (gsubB c) = c := by
  apply UInt8.toNat_inj.1; rw [toNat_gbackB, toNat_gsubB, (gback_sub (u8_lt c)).1]
theorem gsub_gback (c : UInt8) : gsubB (gbackB c) = c := by
  apply UInt8.toNat_inj.1; rw [toNat_gsubB, toNat_gbackB, (gback_sub (u8_lt c)).2.1]

/-- The last word, turned as it is at step i. -/
def lastW (n i : Nat) (p : UInt8) (t : List UInt8) : List UInt8 :=
  if i % n = 0 then [gsubB (t.getD 1 0) ^^^ p, gsubB (t.getD 2 0), gsubB (t.getD 3 0), gsubB (t.getD 0 0)]
  else if n = 8 ∧ i % n = 4 then t.map gsubB else t
def expS (n i : Nat) (p : UInt8) (l : List UInt8) : List UInt8 := l ++ xorL ((l.drop (4 * (i - n))).take 4) (lastW n i p (l.drop (l.length - 4)))
def powS (n i : Nat) (p : UInt8) : UInt8 := if i % n = 0 then gmulB p 2 else p
def expF (n : Nat) : Nat → Nat → UInt8 → List UInt8 → List UInt8
  | 0, _, _, l => l
  | f + 1, i, p, l => expF n f (i + 1) (powS n i p) (expS n i p l)
def expL (key : List UInt8) : List UInt8 := expF (key.length / 4) (3 * (key.length / 4) + 28) (key.length / 4) 1 key

theorem lastW_length (n i : Nat) (p : UInt8) (t : List UInt8) (h : t.length = 4) : (lastW n i p t).length = 4 := by
  unfold lastW; split
  · rfl
  · split
    · simpa using h
    · exact h

theorem expS_length (n i : Nat) (p : UInt8) (l : List UInt8) (hn : 1 ≤ n) (hi : n ≤ i) (hl : l.length = 4 * i) : (expS n i p l).length = 4 * (i + 1) := by
  unfold expS
  rw [List.length_append, xorL_length, lastW_length _ _ _ _ (by rw [List.length_drop]; omega), List.length_take, List.length_drop]
  omega

theorem expF_pre (n : Nat) (hn : 1 ≤ n) : ∀ (f i : Nat) (p : UInt8) (l : List UInt8), n ≤ i → l.length = 4 * i → (expF n f i p l).length = 4 * (i + f) ∧ ∃ r, expF n f i p l = l ++ r
  | 0, i, p, l, _, hl => ⟨hl, [], by rw [List.append_nil]; rfl⟩
  | f + 1, i, p, l, hi, hl => by
    obtain ⟨h1, r, h2⟩ := expF_pre n hn f (i + 1) (powS n i p) (expS n i p l) (by omega) (expS_length n i p l hn hi hl)
    refine ⟨by rw [expF, h1]; omega, xorL ((l.drop (4 * (i - n))).take 4) (lastW n i p (l.drop (l.length - 4))) ++ r, ?_⟩
    rw [expF, h2, expS, List.append_assoc]

theorem expL_pre (key : List UInt8) (hk : key.length = 16 ∨ key.length = 32) : (expL key).length = 16 * (key.length / 4 + 7) ∧ ∃ r, expL key = key ++ r := by
  obtain ⟨h1, h2⟩ := expF_pre (key.length / 4) (by omega) (3 * (key.length / 4) + 28) (key.length / 4) 1 key (Nat.le_refl _) (by omega)
  exact ⟨by unfold expL; rw [h1]; omega, h2⟩

def rowsL (t : Nat) (b : List UInt8) : List UInt8 := (List.range 16).map fun i => b.getD (i % 4 + 4 * ((i / 4 + t * (i % 4)) % 4)) 0
def colF (y : List UInt8) (b : List UInt8) (i : Nat) : Nat → UInt8
  | 0 => 0
  | k + 1 => colF y b i k ^^^ gmulB (y.getD ((k + 4 - i % 4) % 4) 0) (b.getD (4 * (i / 4) + k) 0)
def colsL (y : List UInt8) (b : List UInt8) : List UInt8 := (List.range 16).map fun i => colF y b i 4

theorem rowsL_length (t : Nat) (b : List UInt8) : (rowsL t b).length = 16 := by simp [rowsL]
theorem colsL_length (y b : List UInt8) : (colsL y b).length = 16 := by simp [colsL]

theorem sixteen {b : List UInt8} (h : b.length = 16) : ∃ a0 a1 a2 a3 a4 a5 a6 a7 a8 a9 a10 a11 a12 a13 a14 a15, b = [a0, a1, a2, a3, a4, a5, a6, a7, a8, a9, a10, a11, a12, a13, a14, a15] := by
  match b, h with
  | [a0, a1, a2, a3, a4, a5, a6, a7, a8, a9, a10, a11, a12, a13, a14, a15], _ => exact ⟨a0, a1, a2, a3, a4, a5, a6, a7, a8, a9, a10, a11, a12, a13, a14, a15, rfl⟩

theorem rows_31 (b : List UInt8) (h : b.length = 16) : rowsL 3 (rowsL 1 b) = b := by
  obtain ⟨a0, a1, a2, a3, a4, a5, a6, a7, a8, a9, a10, a11, a12, a13, a14, a15, rfl⟩ := sixteen h
  rfl
theorem rows_13 (b : List UInt8) (h : b.length = 16) : rowsL 1 (rowsL 3 b) = b := by
  obtain ⟨a0, a1, a2, a3, a4, a5, a6, a7, a8, a9, a10, a11, a12, a13, a14, a15, rfl⟩ := sixteen h
  rfl

/-- One byte of a column. -/
def col1 (y0 y1 y2 y3 a b c d : UInt8) : UInt8 := 0 ^^^ gmulB y0 a ^^^ gmulB y1 b ^^^ gmulB y2 c ^^^ gmulB y3 d

theorem colsL_eq (y0 y1 y2 y3 a0 a1 a2 a3 a4 a5 a6 a7 a8 a9 a10 a11 a12 a13 a14 a15 : UInt8) :
    colsL [y0, y1, y2, y3] [a0, a1, a2, a3, a4, a5, a6, a7, a8, a9, a10, a11, a12, a13, a14, a15] =
      [col1 y0 y1 y2 y3 a0 a1 a2 a3, col1 y3 y0 y1 y2 a0 a1 a2 a3, col1 y2 y3 y0 y1 a0 a1 a2 a3, col1 y1 y2 y3 y0 a0 a1 a2 a3,
       col1 y0 y1 y2 y3 a4 a5 a6 a7, col1 y3 y0 y1 y2 a4 a5 a6 a7, col1 y2 y3 y0 y1 a4 a5 a6 a7, col1 y1 y2 y3 y0 a4 a5 a6 a7,
       col1 y0 y1 y2 y3 a8 a9 a10 a11, col1 y3 y0 y1 y2 a8 a9 a10 a11, col1 y2 y3 y0 y1 a8 a9 a10 a11, col1 y1 y2 y3 y0 a8 a9 a10 a11,
       col1 y0 y1 y2 y3 a12 a13 a14 a15, col1 y3 y0 y1 y2 a12 a13 a14 a15, col1 y2 y3 y0 y1 a12 a13 a14 a15, col1 y1 y2 y3 y0 a12 a13 a14 a15] := by
  rfl

theorem gmulB_xor (a x y : UInt8) : gmulB a (x ^^^ y) = gmulB a x ^^^ gmulB a y := by
  apply UInt8.toNat_inj.1
  rw [UInt8.toNat_xor, toNat_gmulB, toNat_gmulB, toNat_gmulB, UInt8.toNat_xor, gmul_xor_r]
theorem gmulB_zero (a : UInt8) : gmulB a 0 = 0 := by
  apply UInt8.toNat_inj.1
  rw [toNat_gmulB]
  exact gmul_zero _

theorem all_bytes {p : UInt8 → Bool} (h : (List.range 256).all (fun n => p (UInt8.ofNat n)) = true) (x : UInt8) : p x = true := by
  have := all1_spec (p := fun n => p (UInt8.ofNat n)) h (u8_lt x)
  simpa using this

theorem zero_xor8 (x : UInt8) : 0 ^^^ x = x := by
  apply UInt8.toNat_inj.1; rw [UInt8.toNat_xor]; simp
theorem xor_zero8 (x : UInt8) : x ^^^ 0 = x := by
  apply UInt8.toNat_inj.1; rw [UInt8.toNat_xor]; simp

instance : Std.Commutative (α := UInt8) (· ^^^ ·) := ⟨fun x y => by apply UInt8.toNat_inj.1; rw [UInt8.toNat_xor, UInt8.toNat_xor, Nat.xor_comm]⟩
instance : Std.Associative (α := UInt8) (· ^^^ ·) := ⟨fun x y z => by apply UInt8.toNat_inj.1; simp only [UInt8.toNat_xor]; rw [Nat.xor_assoc]⟩

/-- One row of one matrix times another: what each byte gives. -/
theorem col_inv (z0 z1 z2 z3 y0 y1 y2 y3 : UInt8)
    (h0 : ∀ x, gmulB z0 (gmulB y0 x) ^^^ gmulB z1 (gmulB y3 x) ^^^ gmulB z2 (gmulB y2 x) ^^^ gmulB z3 (gmulB y1 x) = x)
    (h1 : ∀ x, gmulB z0 (gmulB y1 x) ^^^ gmulB z1 (gmulB y0 x) ^^^ gmulB z2 (gmulB y3 x) ^^^ gmulB z3 (gmulB y2 x) = 0)
    (h2 : ∀ x, gmulB z0 (gmulB y2 x) ^^^ gmulB z1 (gmulB y1 x) ^^^ gmulB z2 (gmulB y0 x) ^^^ gmulB z3 (gmulB y3 x) = 0)
    (h3 : ∀ x, gmulB z0 (gmulB y3 x) ^^^ gmulB z1 (gmulB y2 x) ^^^ gmulB z2 (gmulB y1 x) ^^^ gmulB z3 (gmulB y0 x) = 0) (a b c d : UInt8) :
    col1 z0 z1 z2 z3 (col1 y0 y1 y2 y3 a b c d) (col1 y3 y0 y1 y2 a b c d) (col1 y2 y3 y0 y1 a b c d) (col1 y1 y2 y3 y0 a b c d) = a := by
  have e : col1 z0 z1 z2 z3 (col1 y0 y1 y2 y3 a b c d) (col1 y3 y0 y1 y2 a b c d) (col1 y2 y3 y0 y1 a b c d) (col1 y1 y2 y3 y0 a b c d) =
      (gmulB z0 (gmulB y0 a) ^^^ gmulB z1 (gmulB y3 a) ^^^ gmulB z2 (gmulB y2 a) ^^^ gmulB z3 (gmulB y1 a)) ^^^
      (gmulB z0 (gmulB y1 b) ^^^ gmulB z1 (gmulB y0 b) ^^^ gmulB z2 (gmulB y3 b) ^^^ gmulB z3 (gmulB y2 b)) ^^^
      (gmulB z0 (gmulB y2 c) ^^^ gmulB z1 (gmulB y1 c) ^^^ gmulB z2 (gmulB y0 c) ^^^ gmulB z3 (gmulB y3 c)) ^^^
      (gmulB z0 (gmulB y3 d) ^^^ gmulB z1 (gmulB y2 d) ^^^ gmulB z2 (gmulB y1 d) ^^^ gmulB z3 (gmulB y0 d)) := by
    simp only [col1, gmulB_xor, zero_xor8]
    ac_rfl
  rw [e, h0, h1, h2, h3, xor_zero8, xor_zero8, xor_zero8]

theorem cols_inv (z0 z1 z2 z3 y0 y1 y2 y3 : UInt8)
    (h0 : ∀ x, gmulB z0 (gmulB y0 x) ^^^ gmulB z1 (gmulB y3 x) ^^^ gmulB z2 (gmulB y2 x) ^^^ gmulB z3 (gmulB y1 x) = x)
    (h1 : ∀ x, gmulB z0 (gmulB y1 x) ^^^ gmulB z1 (gmulB y0 x) ^^^ gmulB z2 (gmulB y3 x) ^^^ gmulB z3 (gmulB y2 x) = 0)
    (h2 : ∀ x, gmulB z0 (gmulB y2 x) ^^^ gmulB z1 (gmulB y1 x) ^^^ gmulB z2 (gmulB y0 x) ^^^ gmulB z3 (gmulB y3 x) = 0)
    (h3 : ∀ x, gmulB z0 (gmulB y3 x) ^^^ gmulB z1 (gmulB y2 x) ^^^ gmulB z2 (gmulB y1 x) ^^^ gmulB z3 (gmulB y0 x) = 0) (b : List UInt8) (hb : b.length = 16) :
    colsL [z0, z1, z2, z3] (colsL [y0, y1, y2, y3] b) = b := by
  obtain ⟨a0, a1, a2, a3, a4, a5, a6, a7, a8, a9, a10, a11, a12, a13, a14, a15, rfl⟩ := sixteen hb
  have r0 := col_inv z0 z1 z2 z3 y0 y1 y2 y3 h0 h1 h2 h3
  have r1 : ∀ a b c d : UInt8, col1 z3 z0 z1 z2 (col1 y0 y1 y2 y3 a b c d) (col1 y3 y0 y1 y2 a b c d) (col1 y2 y3 y0 y1 a b c d) (col1 y1 y2 y3 y0 a b c d) = b := fun a b c d => by
    refine Eq.trans ?_ (r0 b c d a)
    simp only [col1, gmulB_xor, zero_xor8]
    ac_rfl
  have r2 : ∀ a b c d : UInt8, col1 z2 z3 z0 z1 (col1 y0 y1 y2 y3 a b c d) (col1 y3 y0 y1 y2 a b c d) (col1 y2 y3 y0 y1 a b c d) (col1 y1 y2 y3 y0 a b c d) = c := fun a b c d => by
    refine Eq.trans ?_ (r0 c d a b)
    simp only [col1, gmulB_xor, zero_xor8]
    ac_rfl
  have r3 : ∀ a b c d : UInt8, col1 z1 z2 z3 z0 (col1 y0 y1 y2 y3 a b c d) (col1 y3 y0 y1 y2 a b c d) (col1 y2 y3 y0 y1 a b c d) (col1 y1 y2 y3 y0 a b c d) = d := fun a b c d => by
    refine Eq.trans ?_ (r0 d a b c)
    simp only [col1, gmulB_xor, zero_xor8]
    ac_rfl
  rw [colsL_eq, colsL_eq]
  simp only [r0, r1, r2, r3]

theorem beq_of {f g : UInt8 → UInt8} (h : (List.range 256).all (fun n => f (UInt8.ofNat n) == g (UInt8.ofNat n)) = true) (x : UInt8) : f x = g x := by
  have := all_bytes (p := fun x => f x == g x) h x
  simpa using this

theorem cols_back (b : List UInt8) (hb : b.length = 16) : colsL [14, 11, 13, 9] (colsL [2, 3, 1, 1] b) = b :=
  cols_inv 14 11 13 9 2 3 1 1 (beq_of (by decide +kernel)) (beq_of (g := fun _ => 0) (by decide +kernel)) (beq_of (g := fun _ => 0) (by decide +kernel)) (beq_of (g := fun _ => 0) (by decide +kernel)) b hb
theorem cols_forth (b : List UInt8) (hb : b.length = 16) : colsL [2, 3, 1, 1] (colsL [14, 11, 13, 9] b) = b :=
  cols_inv 2 3 1 1 14 11 13 9 (beq_of (by decide +kernel)) (beq_of (g := fun _ => 0) (by decide +kernel)) (beq_of (g := fun _ => 0) (by decide +kernel)) (beq_of (g := fun _ => 0) (by decide +kernel)) b hb

def encR (W : List UInt8) (r : Nat) (s : List UInt8) : List UInt8 :=
  xorL (if 16 < W.length - 16 * (r + 1) then colsL [2, 3, 1, 1] (rowsL 1 (s.map gsubB)) else rowsL 1 (s.map gsubB)) (W.drop (16 * (r + 1)))
def decR (W : List UInt8) (r : Nat) (s : List UInt8) : List UInt8 :=
  (rowsL 3 (if 16 < W.length - 16 * (r + 1) then colsL [14, 11, 13, 9] (xorL s (W.drop (16 * (r + 1)))) else xorL s (W.drop (16 * (r + 1))))).map gbackB
def encS (W : List UInt8) : Nat → List UInt8 → List UInt8
  | 0, b => xorL b W
  | r + 1, b => encR W r (encS W r b)
def decS (W : List UInt8) : Nat → List UInt8 → List UInt8
  | 0, s => xorL s W
  | r + 1, s => decS W r (decR W r s)

theorem xorL_twice' : ∀ (s K : List UInt8), s.length ≤ K.length → xorL (xorL s K) K = s
  | [], K, _ => by cases K <;> rfl
  | a :: s, [], h => by simp at h
  | a :: s, c :: K, h => by
    have ih := xorL_twice' s K (by simpa using h)
    unfold xorL at ih ⊢
    simp only [List.zipWith_cons_cons]
    rw [ih]
    congr 1
    apply UInt8.toNat_inj.1
    rw [UInt8.toNat_xor, UInt8.toNat_xor, Nat.xor_assoc, Nat.xor_self, Nat.xor_zero]

theorem map_back (s : List UInt8) : (s.map gsubB).map gbackB = s := by
  rw [List.map_map, show gbackB ∘ gsubB = id from funext gback_gsub, List.map_id]
theorem map_forth (s : List UInt8) : (s.map gbackB).map gsubB = s := by
  rw [List.map_map, show gsubB ∘ gbackB = id from funext gsub_gback, List.map_id]

theorem encR_length (W : List UInt8) (r : Nat) (s : List UInt8) (hW : 16 * (r + 2) ≤ W.length) : (encR W r s).length = 16 := by
  unfold encR
  rw [xorL_length, List.length_drop]
  split <;> first | (rw [colsL_length]; omega) | (rw [rowsL_length]; omega)
theorem decR_length (W : List UInt8) (r : Nat) (s : List UInt8) : (decR W r s).length = 16 := by
  unfold decR
  rw [List.length_map, rowsL_length]

theorem dec_enc (W : List UInt8) (r : Nat) (s : List UInt8) (hs : s.length = 16) (hW : 16 * (r + 2) ≤ W.length) : decR W r (encR W r s) = s := by
  unfold decR encR
  have ls : (s.map gsubB).length = 16 := by simpa using hs
  by_cases h : 16 < W.length - 16 * (r + 1)
  · rw [if_pos h, if_pos h, xorL_twice' _ _ (by rw [colsL_length, List.length_drop]; omega), cols_back _ (rowsL_length _ _), rows_31 _ ls, map_back]
  · rw [if_neg h, if_neg h, xorL_twice' _ _ (by rw [rowsL_length, List.length_drop]; omega), rows_31 _ ls, map_back]
theorem enc_dec (W : List UInt8) (r : Nat) (s : List UInt8) (hs : s.length = 16) (hW : 16 * (r + 2) ≤ W.length) : encR W r (decR W r s) = s := by
  have lx : (xorL s (W.drop (16 * (r + 1)))).length = 16 := by rw [xorL_length, List.length_drop]; omega
  unfold decR encR
  rw [map_forth]
  by_cases h : 16 < W.length - 16 * (r + 1)
  · rw [if_pos h, if_pos h, rows_13 _ (colsL_length _ _), cols_forth _ lx, xorL_twice' _ _ (by rw [List.length_drop]; omega)]
  · rw [if_neg h, if_neg h, rows_13 _ lx, xorL_twice' _ _ (by rw [List.length_drop]; omega)]

theorem encS_length (W : List UInt8) (b : List UInt8) (hb : b.length = 16) : ∀ r, 16 * (r + 1) ≤ W.length → (encS W r b).length = 16
  | 0, h => by rw [encS, xorL_length]; omega
  | r + 1, h => by rw [encS]; exact encR_length _ _ _ h
theorem decS_length (W : List UInt8) (s : List UInt8) (hs : s.length = 16) : ∀ r s, s.length = 16 → 16 ≤ W.length → (decS W r s).length = 16
  | 0, s, hs, h => by rw [decS, xorL_length]; omega
  | r + 1, s, _, h => by rw [decS]; exact decS_length W _ (decR_length W r s) r _ (decR_length _ _ _) h

theorem decS_encS (W : List UInt8) (b : List UInt8) (hb : b.length = 16) : ∀ r, 16 * (r + 1) ≤ W.length → decS W r (encS W r b) = b
  | 0, h => by rw [decS, encS, xorL_twice' _ _ (by omega)]
  | r + 1, h => by rw [decS, encS, dec_enc W r _ (encS_length W b hb r (by omega)) h, decS_encS W b hb r (by omega)]
theorem encS_decS (W : List UInt8) : ∀ r s, s.length = 16 → 16 * (r + 1) ≤ W.length → encS W r (decS W r s) = s
  | 0, s, hs, h => by rw [decS, encS, xorL_twice' _ _ (by omega)]
  | r + 1, s, hs, h => by rw [decS, encS, encS_decS W r _ (decR_length _ _ _) (by omega), enc_dec W r s hs h]

def encL (key text : List UInt8) : List UInt8 := encS (expL key) (key.length / 4 + 6) text
def decL (key text : List UInt8) : List UInt8 := decS (expL key) (key.length / 4 + 6) text

theorem decL_encL (key text : List UInt8) (hk : key.length = 16 ∨ key.length = 32) (ht : text.length = 16) : decL key (encL key text) = text := decS_encS _ _ ht _ (by rw [(expL_pre key hk).1]; omega)
theorem encL_decL (key text : List UInt8) (hk : key.length = 16 ∨ key.length = 32) (ht : text.length = 16) : encL key (decL key text) = text := encS_decS _ _ _ ht (by rw [(expL_pre key hk).1]; omega)
theorem encL_length (key text : List UInt8) (hk : key.length = 16 ∨ key.length = 32) (ht : text.length = 16) : (encL key text).length = 16 := encS_length _ _ ht _ (by rw [(expL_pre key hk).1]; omega)
theorem decL_length (key text : List UInt8) (hk : key.length = 16 ∨ key.length = 32) (ht : text.length = 16) : (decL key text).length = 16 := decS_length _ text ht _ _ ht (by rw [(expL_pre key hk).1]; omega)

def hexB (n k : Nat) : List UInt8 := (List.range k).map fun i => UInt8.ofNat (n / 256 ^ (k - 1 - i))
theorem aes_vec1 : encL (hexB 0x000102030405060708090a0b0c0d0e0f 16) (hexB 0x00112233445566778899aabbccddeeff 16) = hexB 0x69c4e0d86a7b0430d8cdb78070b4c55a 16 := by decide +kernel
theorem aes_vec2 : encL (hexB 0x000102030405060708090a0b0c0d0e0f101112131415161718191a1b1c1d1e1f 32) (hexB 0x00112233445566778899aabbccddeeff 16) = hexB 0x8ea2b7ca516745bfeafc49904b496089 16 := by decide +kernel

end Go.Proofs.YtcmncdaojmkfgaaGreatDoor

namespace Go.Proofs.YtcmncdaojmkfgaaGreatDoor
open Go.RowKit
set_option linter.unusedVariables false

/-- The tables of the first i bytes. -/
def TabK (w : World) (T i : Nat) : Prop := ∃ c : Array Value, w.heap[T]? = some (.cells c 242 (0, 0)) ∧ c.size = 512 ∧ ∀ j, j < i → c[j]? = some (.int .u8 (gsub j : Nat)) ∧ c[256 + gsub j]? = some (.int .u8 (j : Nat))

theorem TabK.lt {w : World} {T i : Nat} (h : TabK w T i) : T < w.heap.size := by
  obtain ⟨c, h1, _⟩ := h
  exact lt_of_obj h1

theorem TabK.there {w : World} {T i : Nat} (h : TabK w T i) (o : Nat) (ho : o < 512) : ∃ v, w.cell? ⟨T, o, none⟩ = some v ∧ w.frozen? ⟨T, o, none⟩ = false := by
  obtain ⟨c, h1, h2, _⟩ := h
  refine ⟨c[o], ?_, obj_frozen h1 o⟩
  rw [obj_cell h1]
  simp [h2, ho]

theorem TabK.step {w : World} {T i : Nat} (h : TabK w T i) (hi : i < 256) : TabK ((w.setCell ⟨T, i, none⟩ (.int .u8 (gsub i : Nat))).setCell ⟨T, 256 + gsub i, none⟩ (.int .u8 (i : Nat))) T (i + 1) := by
  obtain ⟨c, h1, h2, h3⟩ := h
  have hs := gsub_lt hi
  refine ⟨_, obj_setCell (obj_setCell h1 _ _) _ _, by simp [h2], fun j hj => ?_⟩
  have hsj : j < 256 := by omega
  have hgj := gsub_lt hsj
  by_cases e : j = i
  · subst e
    constructor
    · rw [Array.getElem?_setIfInBounds_ne (by omega), Array.getElem?_setIfInBounds_self]
      simp; omega
    · rw [Array.getElem?_setIfInBounds_self]
      simp; omega
  · have h4 := h3 j (by omega)
    have hne : gsub i ≠ gsub j := fun q => e ((gsub_inj hi hsj).1 q).symm
    constructor
    · rw [Array.getElem?_setIfInBounds_ne (by omega), Array.getElem?_setIfInBounds_ne (by omega)]
      exact h4.1
    · rw [Array.getElem?_setIfInBounds_ne (by omega), Array.getElem?_setIfInBounds_ne (by omega)]
      exact h4.2

/-- Both tables. -/
def Tab (w : World) (T : Nat) : Prop := TabK w T 256

theorem Tab.kept {w w' : World} {T : Nat} {r : Option Nat} (h : Tab w T) (g : w.grownBy w' r) (hr : some T ≠ r) : Tab w' T := by
  obtain ⟨c, h1, h2⟩ := h
  exact ⟨c, grow_obj g h1 hr, h2⟩

theorem Tab.sub {w : World} {T : Nat} (h : Tab w T) (c : UInt8) : w.cell? ⟨T, c.toNat, none⟩ = some (.int .u8 ((gsubB c).toNat : Int)) := by
  obtain ⟨d, h1, h2, h3⟩ := h
  rw [obj_cell h1, (h3 _ (u8_lt c)).1, toNat_gsubB]

theorem Tab.back {w : World} {T : Nat} (h : Tab w T) (c : UInt8) : w.cell? ⟨T, 256 + c.toNat, none⟩ = some (.int .u8 ((gbackB c).toNat : Int)) := by
  obtain ⟨d, h1, h2, h3⟩ := h
  have hb := gback_lt (u8_lt c)
  have := (h3 _ hb).2
  rw [(gback_sub (u8_lt c)).2.1] at this
  rw [obj_cell h1, this, toNat_gbackB]

def Made (w : World) (e : Ending) (w' : World) : Prop := ∃ T, e = .returned (.pointer (some ⟨T, 0, none⟩)) ∧ w.heap.size ≤ T ∧ Tab w' T ∧ w.grownBy w' none

set_option maxRecDepth 20000 in
set_option maxHeartbeats 1000000 in
theorem code_made (w : World) : Calls Tryz.prog 172 #[] w (Made w) := by
  go_enter Tryz.func172, Tryz.ntmps172
  go_upto_region 2 with (fail)
  have hx0 : TabK (w.alloc (Obj.cells Tryz.zeroCells242 242)) w.heap.size 0 := ⟨Tryz.zeroCells242, obj_new w _, by kernel_rfl, fun j hj => absurd hj (by omega)⟩
  have hg0 : w.grownBy (w.alloc (Obj.cells Tryz.zeroCells242 242)) none := grow_alloc (grow_refl w _) _
  have HX0 := Lib.hid hx0
  have HG0 := Lib.hid hg0
  clear hx0 hg0
  obtain ⟨T, hT⟩ : ∃ T, T = w.heap.size := ⟨_, rfl⟩
  have hT0 : w.heap.size ≤ T := by omega
  rw [← hT] at HX0 ⊢
  clear hT
  generalize w.alloc (Obj.cells Tryz.zeroCells242 242) = x at *
  go_wp2_with fail
  go_loopw [6] (fun vi wr => ∃ i : Nat, i ≤ 256 ∧ vi = .int .i64 i ∧ TabK wr T i ∧ x.grownBy wr (some T)) (fun vi _ => 256 - (intOf vi).toNat)
  case atStart => exact ⟨0, by omega, rfl, HX0.out, grow_refl _ _⟩
  case round =>
    obtain ⟨i, hi, rfl, hK, hg⟩ := hrel
    by_cases hlt : i < 256
    · have hsl := gsub_lt hlt
      obtain ⟨v1, c1, f1⟩ := hK.there i (by omega)
      obtain ⟨v2, c2, f2⟩ := TabK.there (i := 0) (w := wr.setCell ⟨T, i, none⟩ (.int .u8 (gsub i : Nat))) (T := T) (by obtain ⟨c, h1, h2, _⟩ := hK; exact ⟨_, obj_setCell h1 _ _, by simpa using h2, fun j hj => absurd hj (by omega)⟩) (256 + gsub i) (by omega)
      have hst := Lib.hid (And.intro (hK.step hlt) (grow_setCell (grow_setCell hg i (.int .u8 (gsub i : Nat))) (256 + gsub i) (.int .u8 (i : Nat))))
      have hcv : (i : Int) % 256 = (i : Int) := by omega
      have A1 : ∀ W : World, Calls Tryz.prog 177 #[.int .u8 i] W fun e w' => e = .returned (.int .u8 (gsub i)) ∧ W = w' := fun W => galois_sub i W hlt
      clear hK hg
      generalize gsub i = s at *
      have b0 : (0 : Int) ≤ (s : Int) := by omega
      have b1 : (s : Int) < 256 := by omega
      go_wp2_with fail
      refine (A1 _).mono ?_
      rintro e w' ⟨rfl, rfl⟩
      go_wp2_with fail
      go_region
      go_wp2_with fail
      go_roundw
      case rel => exact ⟨i + 1, by omega, by go_num, hst.out.1, grow_drew hst.out.2⟩
      case measure => simp [intOf]; omega
    · obtain rfl : i = 256 := by omega
      go_wp2_with fail
      go_ret
      exact ⟨T, rfl, hT0, hK, grow_trans_new HG0.out hg hT0⟩

end Go.Proofs.YtcmncdaojmkfgaaGreatDoor

namespace Go.Proofs.YtcmncdaojmkfgaaGreatDoor
open Go.RowKit
set_option linter.unusedVariables false

def BB (w : World) (B : Nat) (l : List UInt8) : Prop := Blk w B 250 (l.map bcell)

theorem BB.cell {w : World} {B : Nat} {l : List UInt8} (h : BB w B l) (i : Nat) (hi : i < l.length) : w.cell? ⟨B, i, none⟩ = some (.int .u8 (l[i].toNat : Int)) := by
  rw [Blk.cell h]
  simp [bcell, hi]
theorem BB.bys {w : World} {B : Nat} {l : List UInt8} (h : BB w B l) : Bys w B l := fun i hi => ⟨h.cell i hi, Blk.frozen h i⟩

theorem u8_info : (Tryz.prog.info? 5).map (·.size) = some 1 := by kernel_rfl
theorem u8_size (w : World) : (Go.sizeOf 5).run Tryz.prog w = .ok 1 w := by
  have h := u8_info
  cases hq : Tryz.prog.info? 5 with
  | none => rw [hq] at h; simp at h
  | some i =>
    rw [hq] at h
    have hi : i.size = 1 := by simpa using h
    simp [sizeOf, typeInfo, hq, hi]

set_option maxHeartbeats 1000000 in
theorem code_aadd (w : World) (B : Nat) (l s : List UInt8) (hB : BB w B l) (hl : l.length = 16) (hs : 16 ≤ s.length) (hs2 : s.length ≤ 140737488355328) :
    Calls Tryz.prog 184 #[.pointer (some ⟨B, 0, none⟩), S s] w fun e w' => e = .returned (.tuple #[]) ∧ BB w' B (xorL l s) ∧ w.grownBy w' (some B) := by
  have A1 : ∀ W : World, Calls Tryz.prog 151 #[S l, S s] W (GrowsTo (S (xorL l s)) W) := fun W => wire_xor W l s (by omega) hs2
  have hcv : (convert 90 9 (.slice (some ⟨B, 0, none⟩) 16 16)).run Tryz.prog w = .ok (S l) w := by have := conv_bys hB.bys 16; rw [hl] at this; exact this
  have hcd : (convert 90 9 (.slice (some ⟨B, 0, none⟩) 16 16)).run Tryz.prog w.drew = .ok (S l) w.drew := by have := conv_bys (w := w.drew) (b := B) (l := l) hB.bys 16; rw [hl] at this; exact this
  have lx : (xorL l s).length = 16 := by rw [xorL_length]; omega
  have HB := Lib.hid hB
  have hfin : ∀ W : World, w.grownBy W none → BB (W.setCells B 0 ((xorL l s).map bcell)) B (xorL l s) := fun W hg => Blk.store (Blk.kept HB.out hg (by simp)) _ (by simp [lx, hl])
  generalize xorL l s = X at *
  clear hB
  have CP : ∀ W : World, w.grownBy W none → (Builtin.copy_ #[90, 9] 3 #[.slice (some ⟨B, 0, none⟩) 16 16, .string ⟨X.toArray⟩]).run Tryz.prog W = .ok (.int .i64 16) (W.setCells B 0 (X.map bcell)) := fun W hg => by
    have hBW : BB W B l := Blk.kept HB.out hg (by simp)
    have lX : (ByteArray.mk X.toArray).size = 16 := by simpa [ByteArray.size] using lx
    have := run_copy_string (P := Tryz.prog) W 90 9 3 5 B 0 16 16 ⟨X.toArray⟩ Tryz.underlying90 u8_size (by omega) (fun j hj => by rw [Nat.zero_add, hBW.cell j (by omega)]; rfl) (fun j hj => by rw [Nat.zero_add]; exact Blk.frozen hBW j)
    rw [lX] at this
    exact this
  unfold S GrowsTo at *
  go_enter Tryz.func184, Tryz.ntmps184
  go_region_with (first
    | (go_at_call 151; (with_reducible refine (A1 _).mono ?_); rintro e x ⟨rfl, hg⟩; have hcp := CP x (by first | exact grow_trans (grow_drew (grow_refl w none)) hg | exact hg)))
  all_goals
    have hgx := grow_trans (grow_drew (grow_refl w none)) hg
    have hf2 := hfin x hgx
    clear hcp CP hcv hcd hg
    go_end0
    exact ⟨rfl, hf2, grow_setCells _ _ _ _ _ (grow_none hgx)⟩

/-- The first i are turned. -/
def mapK (f : UInt8 → UInt8) (l : List UInt8) (i : Nat) : List UInt8 := (l.map f).take i ++ l.drop i
theorem mapK_zero (f : UInt8 → UInt8) (l : List UInt8) : mapK f l 0 = l := rfl
theorem mapK_all (f : UInt8 → UInt8) (l : List UInt8) (n : Nat) (h : l.length = n) : mapK f l n = l.map f := by
  subst h
  unfold mapK
  rw [List.drop_length, List.append_nil, List.take_of_length_le (by simp)]
theorem mapK_length (f : UInt8 → UInt8) (l : List UInt8) (i : Nat) : (mapK f l i).length = l.length := by
  unfold mapK
  rw [List.length_append, List.length_take, List.length_drop, List.length_map]
  omega
theorem mapK_at (f : UInt8 → UInt8) (l : List UInt8) (i : Nat) (h : i < l.length) : (mapK f l i)[i]'(by rw [mapK_length]; exact h) = l[i] := by
  unfold mapK
  rw [List.getElem_append_right (by rw [List.length_take]; omega)]
  simp [Nat.min_eq_left (Nat.le_of_lt h)]
theorem mapK_set (f : UInt8 → UInt8) (l : List UInt8) (i : Nat) (h : i < l.length) : (mapK f l i).set i (f l[i]) = mapK f l (i + 1) := by
  unfold mapK
  rw [List.set_append_right _ _ (by rw [List.length_take]; omega), List.length_take, List.length_map, Nat.min_eq_left (Nat.le_of_lt h), Nat.sub_self]
  have e : l.drop i = l[i] :: l.drop (i + 1) := List.drop_eq_getElem_cons h
  rw [List.take_succ_eq_append_getElem (by simpa using h)]
  simp
  rw [e]
  rfl

theorem BB.set {w : World} {B : Nat} {l : List UInt8} (h : BB w B l) (i : Nat) (c : UInt8) : BB (w.setCell ⟨B, i, none⟩ (.int .u8 (c.toNat : Int))) B (l.set i c) := by
  have := Blk.set h i (bcell c)
  unfold BB
  rw [List.map_set]
  exact this

set_option maxRecDepth 20000 in
set_option maxHeartbeats 1000000 in
theorem code_through (w : World) (B T off : Nat) (f : UInt8 → UInt8) (l : List UInt8) (hB : BB w B l) (hl : l.length = 16) (hT : ∀ W : World, w.grownBy W (some B) → ∀ c : UInt8, W.cell? ⟨T, off + c.toNat, none⟩ = some (.int .u8 ((f c).toNat : Int))) :
    Calls Tryz.prog 185 #[.pointer (some ⟨B, 0, none⟩), .pointer (some ⟨T, off, none⟩)] w fun e w' => e = .returned (.tuple #[]) ∧ BB w' B (l.map f) ∧ w.grownBy w' (some B) := by
  have HL := Lib.hid hl
  clear hl
  go_enter Tryz.func185, Tryz.ntmps185
  go_wp2_with fail
  go_loopw [7] (fun vi wr => ∃ i : Nat, i ≤ 16 ∧ vi = .int .i64 i ∧ BB wr B (mapK f l i) ∧ w.grownBy wr (some B)) (fun vi _ => 16 - (intOf vi).toNat)
  case atStart => exact ⟨0, by omega, rfl, hB, grow_refl _ _⟩
  case round =>
    clear hB
    obtain ⟨i, hi, rfl, hK, hg⟩ := hrel
    by_cases hlt : i < 16
    · have hil : i < l.length := by have := HL.out; omega
      have c1 := hK.cell i (by rw [mapK_length]; exact hil)
      rw [mapK_at f l i hil] at c1
      have f1 := Blk.frozen hK i
      have hst := Lib.hid (And.intro (hK.set i (f l[i])) (grow_setCell hg i (.int .u8 ((f l[i]).toNat : Int))))
      rw [mapK_set f l i hil] at hst
      have ct := hT wr hg l[i]
      have cl := u8_lt l[i]
      generalize f l[i] = d at *
      generalize l[i] = c at *
      clear hK hT
      have b0 : (0 : Int) ≤ (c.toNat : Int) := by omega
      have b1 : (c.toNat : Int) < 256 := by omega
      go_wp2_with fail
      go_region
      go_wp2_with fail
      go_region
      go_wp2_with fail
      go_roundw
      case rel => exact ⟨i + 1, by omega, by go_num, hst.out.1, grow_drew (grow_drew hst.out.2)⟩
      case measure => simp [intOf]; omega
    · obtain rfl : i = 16 := by omega
      rw [mapK_all f l 16 HL.out] at hK
      go_wp2_with fail
      go_end0
      exact ⟨rfl, hK, hg⟩

def rowK (t : Nat) (b : List UInt8) (i : Nat) : List UInt8 := (rowsL t b).take i ++ b.drop i
theorem rowK_length (t : Nat) (b : List UInt8) (hb : b.length = 16) (i : Nat) : (rowK t b i).length = 16 := by
  unfold rowK
  rw [List.length_append, List.length_take, List.length_drop, rowsL_length, hb]
  omega

set_option maxRecDepth 20000 in
set_option maxHeartbeats 1000000 in
theorem code_arows (w : World) (B t : Nat) (l : List UInt8) (hB : BB w B l) (hl : l.length = 16) (ht : t ≤ 3) :
    Calls Tryz.prog 186 #[.pointer (some ⟨B, 0, none⟩), .int .i64 t] w fun e w' => e = .returned (.tuple #[]) ∧ BB w' B (rowsL t l) ∧ w.grownBy w' (some B) := by
  have HL := Lib.hid hl
  have info16 : (Tryz.prog.info? 250).map (·.size) = some (l.map bcell).length := by rw [List.length_map, hl]; kernel_rfl
  have HI := Lib.hid info16
  have hsv := fun W : World => run_store_new (P := Tryz.prog) W #[.int .u8 0, .int .u8 0, .int .u8 0, .int .u8 0, .int .u8 0, .int .u8 0, .int .u8 0, .int .u8 0, .int .u8 0, .int .u8 0, .int .u8 0, .int .u8 0, .int .u8 0, .int .u8 0, .int .u8 0, .int .u8 0] 250 (l.map bcell) (by simp [hl]) (by intro v hv; obtain ⟨c, _, rfl⟩ := List.mem_map.1 hv; rfl)
  clear hl info16
  go_enter Tryz.func186, Tryz.ntmps186
  go_upto_region 0 with (fail)
  refine wp_region_lit ?_
  refine Go.Great.wpList_readTo rfl _ rfl (.pointer (some ⟨B, 0, none⟩)) rfl ?_
  refine Go.Great.wpList_readTo rfl _ rfl (.pointer (some ⟨B, 0, none⟩)) rfl ?_
  refine wpList_load_mid rfl 250 _ rfl B 0 rfl (l.map bcell) _ (Blk.range hB) Tryz.underlying250 rfl HI.out ?_
  go_upto_region 1 with (fail)
  clear hsv
  obtain ⟨C, hC⟩ : ∃ C, C = w.heap.size := ⟨_, rfl⟩
  have hC0 : BB (w.alloc (.cells (l.map bcell).toArray 250)) C l := by rw [hC]; exact Blk.new w _ _
  have hB0 : BB (w.alloc (.cells (l.map bcell).toArray 250)) B (rowK t l 0) := Blk.kept hB (World.grownBy_alloc _ _ none) (by simp)
  have hg0 : w.grownBy (w.alloc (.cells (l.map bcell).toArray 250)) (some B) := grow_alloc (grow_refl w _) _
  have hBC : B ≠ C := by have := Blk.lt hB; omega
  rw [← hC]
  clear hB hC
  generalize w.alloc (.cells (l.map bcell).toArray 250) = x at *
  have HC := Lib.hid hC0
  clear hC0
  go_wp2_with fail
  go_loopw [11] (fun vi wr => ∃ i : Nat, i ≤ 16 ∧ vi = .int .i64 i ∧ BB wr B (rowK t l i) ∧ x.grownBy wr (some B)) (fun vi _ => 16 - (intOf vi).toNat)
  case atStart => exact ⟨0, by omega, rfl, hB0, grow_refl _ _⟩
  case round =>
    clear hB0
    obtain ⟨i, hi, rfl, hK, hg⟩ := hrel
    have kl := rowK_length t l HL.out i
    by_cases hlt : i < 16
    · obtain ⟨k, hk, hk16⟩ : ∃ k : Nat, k = i % 4 + 4 * ((i / 4 + t * (i % 4)) % 4) ∧ k < 16 := ⟨_, rfl, by omega⟩
      have hkl : k < l.length := by have := HL.out; omega
      have hCr : BB wr C l := Blk.kept HC.out hg (by simp; omega)
      have ck := hCr.cell k hkl
      have hset : (rowK t l i).set i l[k] = rowK t l (i + 1) := by
        have e1 : (rowsL t l)[i]'(by rw [rowsL_length]; exact hlt) = l[k] := by
          unfold rowsL
          rw [List.getElem_map, List.getElem_range, ← hk, List.getD_eq_getElem?_getD, List.getElem?_eq_getElem hkl]
          rfl
        have e2 : l.drop i = l[i]'(by have := HL.out; omega) :: l.drop (i + 1) := List.drop_eq_getElem_cons _
        unfold rowK
        rw [List.set_append_right _ _ (by rw [List.length_take]; omega), List.length_take, rowsL_length, Nat.min_eq_left (Nat.le_of_lt hlt), Nat.sub_self, e2, List.set_cons_zero]
        rw [List.take_succ_eq_append_getElem (by rw [rowsL_length]; exact hlt), e1, List.append_assoc]
        rfl
      have hst := Lib.hid (And.intro (hK.set i l[k]) (grow_setCell hg i (.int .u8 (l[k].toNat : Int))))
      rw [hset] at hst
      clear hset
      have ci := hK.cell i (by omega)
      have fi := Blk.frozen hK i
      generalize (rowK t l i)[i]'_ = d at *
      generalize l[k] = c at *
      have q1 : (t : Int) * ((i : Int) % 4) = ((t * (i % 4) : Nat) : Int) := by rw [Int.natCast_mul]; rfl
      obtain ⟨u, hu⟩ : ∃ u : Nat, u = t * (i % 4) := ⟨_, rfl⟩
      have hu9 : u ≤ 9 := by rw [hu]; exact Nat.mul_le_mul ht (by omega : i % 4 ≤ 3)
      rw [← hu] at q1 hk
      clear hu
      have q3 : (i : Int) % 4 + 4 * (((i : Int) / 4 + (u : Int)) % 4) = (k : Int) := by omega
      have k0 : (0 : Int) ≤ (k : Int) := by omega
      have k1 : (k : Int) < 16 := by omega
      clear hK hCr hk kl hkl hi hg
      go_wp2_with fail
      go_region
      go_wp2_with fail
      go_roundw
      case rel => exact ⟨i + 1, by omega, by go_num, hst.out.1, grow_drew hst.out.2⟩
      case measure => simp [intOf]; omega
    · obtain rfl : i = 16 := by omega
      have e : rowK t l 16 = rowsL t l := by
        unfold rowK
        rw [List.drop_of_length_le (by have := HL.out; omega), List.append_nil, List.take_of_length_le (by rw [rowsL_length]; omega)]
      rw [e] at hK
      go_wp2_with fail
      go_end0
      exact ⟨rfl, hK, grow_trans hg0 hg⟩

end Go.Proofs.YtcmncdaojmkfgaaGreatDoor

namespace Go.Proofs.YtcmncdaojmkfgaaGreatDoor
open Go.RowKit
set_option linter.unusedVariables false

def colK (y b : List UInt8) (i : Nat) : List UInt8 := (colsL y b).take i ++ b.drop i
theorem colK_length (y b : List UInt8) (hb : b.length = 16) (i : Nat) : (colK y b i).length = 16 := by
  unfold colK
  rw [List.length_append, List.length_take, List.length_drop, colsL_length, hb]
  omega
theorem colK_set (y b : List UInt8) (hb : b.length = 16) (i : Nat) (hi : i < 16) : (colK y b i).set i (colF y b i 4) = colK y b (i + 1) := by
  have e1 : (colsL y b)[i]'(by rw [colsL_length]; exact hi) = colF y b i 4 := by
    unfold colsL
    rw [List.getElem_map, List.getElem_range]
  have e2 : b.drop i = b[i]'(by omega) :: b.drop (i + 1) := List.drop_eq_getElem_cons _
  unfold colK
  rw [List.set_append_right _ _ (by rw [List.length_take]; omega), List.length_take, colsL_length, Nat.min_eq_left (Nat.le_of_lt hi), Nat.sub_self, e2, List.set_cons_zero]
  rw [List.take_succ_eq_append_getElem (by rw [colsL_length]; exact hi), e1, List.append_assoc]
  rfl

def YB (w : World) (B : Nat) (l : List UInt8) : Prop := Blk w B 244 (l.map bcell)
theorem YB.cell {w : World} {B : Nat} {l : List UInt8} (h : YB w B l) (i : Nat) (hi : i < l.length) : w.cell? ⟨B, i, none⟩ = some (.int .u8 (l[i].toNat : Int)) := by
  rw [Blk.cell h]
  simp [bcell, hi]

set_option maxRecDepth 20000 in
set_option maxHeartbeats 1000000 in
theorem code_acols (w : World) (B : Nat) (y l : List UInt8) (hB : BB w B l) (hl : l.length = 16) (hy : y.length = 4) :
    Calls Tryz.prog 187 #[.pointer (some ⟨B, 0, none⟩), .agg (y.map bcell).toArray] w fun e w' => e = .returned (.tuple #[]) ∧ BB w' B (colsL y l) ∧ w.grownBy w' (some B) := by
  have HL := Lib.hid hl
  have HY := Lib.hid hy
  have info16 : (Tryz.prog.info? 250).map (·.size) = some (l.map bcell).length := by rw [List.length_map, hl]; kernel_rfl
  have HI := Lib.hid info16
  have hsv := fun W : World => run_store_new (P := Tryz.prog) W #[.int .u8 0, .int .u8 0, .int .u8 0, .int .u8 0, .int .u8 0, .int .u8 0, .int .u8 0, .int .u8 0, .int .u8 0, .int .u8 0, .int .u8 0, .int .u8 0, .int .u8 0, .int .u8 0, .int .u8 0, .int .u8 0] 250 (l.map bcell) (by simp [hl]) (by intro v hv; obtain ⟨c, _, rfl⟩ := List.mem_map.1 hv; rfl)
  clear hl hy info16
  go_enter Tryz.func187, Tryz.ntmps187
  go_upto_region 1 with (fail)
  have hBx : BB (w.alloc (.cells (y.map bcell).toArray 244)) B l := Blk.kept hB (World.grownBy_alloc _ _ none) (by simp)
  have hYx : YB (w.alloc (.cells (y.map bcell).toArray 244)) w.heap.size y := Blk.new w _ _
  have hgx : w.grownBy (w.alloc (.cells (y.map bcell).toArray 244)) (some B) := grow_alloc (grow_refl w _) _
  have hBY : B < w.heap.size := Blk.lt hB
  generalize w.alloc (.cells (y.map bcell).toArray 244) = v at *
  obtain ⟨Y, hY⟩ : ∃ Y, Y = w.heap.size := ⟨_, rfl⟩
  rw [← hY] at hYx hBY ⊢
  clear hY hB
  refine wp_region_lit ?_
  refine Go.Great.wpList_readTo rfl _ rfl (.pointer (some ⟨B, 0, none⟩)) rfl ?_
  refine Go.Great.wpList_readTo rfl _ rfl (.pointer (some ⟨B, 0, none⟩)) rfl ?_
  refine wpList_load_mid rfl 250 _ rfl B 0 rfl (l.map bcell) _ (Blk.range hBx) Tryz.underlying250 rfl HI.out ?_
  go_upto_region 2 with (fail)
  clear hsv
  have hYlt : Y < v.heap.size := Blk.lt hYx
  have hC0 : BB (v.alloc (.cells (l.map bcell).toArray 250)) v.heap.size l := Blk.new v _ _
  have hY0 : YB (v.alloc (.cells (l.map bcell).toArray 250)) Y y := Blk.kept hYx (World.grownBy_alloc _ _ none) (by simp)
  have hB0 : BB (v.alloc (.cells (l.map bcell).toArray 250)) B (colK y l 0) := Blk.kept hBx (World.grownBy_alloc _ _ none) (by simp)
  have hg0 : w.grownBy (v.alloc (.cells (l.map bcell).toArray 250)) (some B) := grow_alloc hgx _
  obtain ⟨C, hC⟩ : ∃ C, C = v.heap.size := ⟨_, rfl⟩
  rw [← hC] at hC0 hYlt ⊢
  clear hC hYx hBx hgx
  generalize v.alloc (.cells (l.map bcell).toArray 250) = x at *
  have HC := Lib.hid hC0
  have HYY := Lib.hid hY0
  clear hC0 hY0
  go_wp2_with fail
  go_loopw [12] (fun vi wr => ∃ i : Nat, i ≤ 16 ∧ vi = .int .i64 i ∧ BB wr B (colK y l i) ∧ x.grownBy wr (some B)) (fun vi _ => 16 - (intOf vi).toNat)
  case atStart => exact ⟨0, by omega, rfl, hB0, grow_refl _ _⟩
  case round =>
    clear hB0
    obtain ⟨i, hi, rfl, hK, hg⟩ := hrel
    have kl := colK_length y l HL.out i
    by_cases hlt : i < 16
    · have hs := Lib.hid (colK_set y l HL.out i hlt)
      have hd : decide ((i : Int) < 16) = true := by simp; omega
      have ci := hK.cell i (by omega)
      have fi := Blk.frozen hK i
      have hst : BB (wr.setCell ⟨B, i, none⟩ (.int .u8 0)) B ((colK y l i).set i (colF y l i 0)) := hK.set i 0
      have hgs := grow_setCell hg i (.int .u8 0)
      generalize (colK y l i)[i]'_ = d at *
      generalize colK y l i = L at *
      have HS := Lib.hid (And.intro hst hgs)
      clear hst hgs hK hg
      go_wp2_with fail
      go_loopw [23] (fun vk wk => ∃ k : Nat, k ≤ 4 ∧ vk = .int .i64 k ∧ BB wk B (L.set i (colF y l i k)) ∧ x.grownBy wk (some B)) (fun vk _ => 4 - (intOf vk).toNat)
      case atStart => exact ⟨0, by omega, rfl, HS.out.1, HS.out.2⟩
      case round =>
        clear HS fi ci
        obtain ⟨k, hk, rfl, hK, hg⟩ := hrel
        by_cases hlk : k < 4
        · obtain ⟨m, hm⟩ : ∃ m : Nat, m = (k + 4 - i % 4) % 4 := ⟨_, rfl⟩
          obtain ⟨n, hn⟩ : ∃ n : Nat, n = 4 * (i / 4) + k := ⟨_, rfl⟩
          have hml : m < y.length := by have := HY.out; omega
          have hnl : n < l.length := by have := HL.out; omega
          have q1 : ((k : Int) - (i : Int) % 4 + 4) % 4 = (m : Int) := by omega
          have q1t : Int.tmod ((k : Int) - (i : Int) % 4 + 4) 4 = (m : Int) := by rw [Int.tmod_eq_emod_of_nonneg (by omega)]; exact q1
          have q1a : IntKind.i64.wrap ((k : Int) - (i : Int) % 4) = (k : Int) - (i : Int) % 4 := IntWalk.i64_in _ (by omega)
          have q1b : IntKind.i64.wrap ((k : Int) - (i : Int) % 4 + 4) = (k : Int) - (i : Int) % 4 + 4 := IntWalk.i64_in _ (by omega)
          have q2a : IntKind.i64.wrap (4 * ((i : Int) / 4)) = 4 * ((i : Int) / 4) := IntWalk.i64_in _ (by omega)
          have q2b : IntKind.i64.wrap (4 * ((i : Int) / 4) + (k : Int)) = 4 * ((i : Int) / 4) + (k : Int) := IntWalk.i64_in _ (by omega)
          have q1n : (0 : Int) ≤ (k : Int) - (i : Int) % 4 + 4 := by omega
          have q2 : 4 * ((i : Int) / 4) + (k : Int) = (n : Int) := by omega
          have q2c : IntKind.i64.wrap (n : Int) = (n : Int) := IntWalk.i64_in _ (by omega)
          have q1c : IntKind.i64.wrap (m : Int) = (m : Int) := IntWalk.i64_in _ (by omega)
          have i0 : (0 : Int) ≤ (i : Int) := by omega
          have i1 : (i : Int) < 16 := by omega
          have m0 : (0 : Int) ≤ (m : Int) := by omega
          have m1 : (m : Int) < 4 := by omega
          have n0 : (0 : Int) ≤ (n : Int) := by omega
          have n1 : (n : Int) < 16 := by omega
          have hCr : BB wr C l := Blk.kept HC.out hg (by simp; omega)
          have hYr : YB wr Y y := Blk.kept HYY.out hg (by simp; omega)
          have cm := hYr.cell m hml
          have cn := hCr.cell n hnl
          have ci := hK.cell i (by rw [List.length_set]; omega)
          rw [List.getElem_set_self] at ci
          have fi := Blk.frozen hK i
          have hnext : colF y l i (k + 1) = colF y l i k ^^^ gmulB y[m] l[n] := by
            rw [colF, ← hm, ← hn, List.getD_eq_getElem?_getD, List.getElem?_eq_getElem hml, List.getD_eq_getElem?_getD, List.getElem?_eq_getElem hnl]
            rfl
          have hst := hK.set i (colF y l i (k + 1))
          rw [List.set_set] at hst
          have hgs := grow_setCell hg i (.int .u8 ((colF y l i (k + 1)).toNat : Int))
          have HS := Lib.hid (And.intro hst hgs)
          have A1 : ∀ W : World, Calls Tryz.prog 178 #[.int .u8 (y[m].toNat : Nat), .int .u8 (l[n].toNat : Nat)] W fun e w' => e = .returned (.int .u8 ((gmulB y[m] l[n]).toNat : Nat)) ∧ W = w' := fun W => by
            rw [toNat_gmulB]
            exact galois_mul _ _ W (u8_lt _) (u8_lt _)
          have xb := xor_byte (colF y l i k) (gmulB y[m] l[n])
          rw [← hnext] at xb
          clear hm hn hst hgs hK hg hCr hYr hnext
          generalize gmulB y[m] l[n] = g at *
          generalize y[m] = cy at *
          generalize l[n] = cl at *
          obtain ⟨cb, hcb⟩ : ∃ c, c = colF y l i (k + 1) := ⟨_, rfl⟩
          rw [← hcb] at xb HS
          have HCB := Lib.hid hcb
          clear hcb
          generalize colF y l i k = ca at *
          clear hml hnl
          go_wp2_with fail
          go_still_tail 22, (by kernel_rfl)
          still_call ((A1 _).mono (fun e w' h => ⟨h.1, h.2.symm⟩))
          repeat still_step
          refine wpStill_nil ?_
          change wpList _ _ _ _ _ wr.drew
          go_wp2_with fail
          go_roundw
          case rel => exact ⟨k + 1, by omega, by go_num, by rw [← HCB.out]; exact HS.out.1, grow_drew HS.out.2⟩
          case measure => simp [intOf]; omega
        · obtain rfl : k = 4 := by omega
          rw [hs.out] at hK
          go_wp2_with fail
          go_roundw
          case rel => exact ⟨i + 1, by omega, by go_num, hK, hg⟩
          case measure => simp [intOf]; omega
    · obtain rfl : i = 16 := by omega
      have e : colK y l 16 = colsL y l := by
        unfold colK
        rw [List.drop_of_length_le (by have := HL.out; omega), List.append_nil, List.take_of_length_le (by rw [colsL_length]; omega)]
      rw [e] at hK
      go_wp2_with fail
      go_end0
      exact ⟨rfl, hK, grow_trans hg0 hg⟩

end Go.Proofs.YtcmncdaojmkfgaaGreatDoor
