/- AES: plain: what is expanded, and rounds and their inverses. -/
import Derived.Test.YtffeekfofbcobaaGreatGaloisPlain
import Derived.Test.YtffeekfofbcobaaGreatWxor
namespace Go.Proofs.YtffeekfofbcobaaGreat
set_option linter.unusedVariables false

def gsubB (c : UInt8) : UInt8 := UInt8.ofNat (gsub c.toNat)
def gbackB (c : UInt8) : UInt8 := UInt8.ofNat (gback c.toNat)
def gmulB (a c : UInt8) : UInt8 := UInt8.ofNat (gmul a.toNat c.toNat)

theorem toNat_gsubB (c : UInt8) : (gsubB c).toNat = gsub c.toNat := by
  unfold gsubB; rw [UInt8.toNat_ofNat', Nat.mod_eq_of_lt (gsub_lt (u8_lt c))]
theorem toNat_gbackB (c : UInt8) : (gbackB c).toNat = gback c.toNat := by
  unfold gbackB; rw [UInt8.toNat_ofNat', Nat.mod_eq_of_lt (gback_lt (u8_lt c))]
theorem toNat_gmulB (a c : UInt8) : (gmulB a c).toNat = gmul a.toNat c.toNat := by
  unfold gmulB; rw [UInt8.toNat_ofNat', Nat.mod_eq_of_lt (gmul_lt (u8_lt a) _)]

theorem gback_gsub (c : UInt8) : gbackB (gsubB c) = c := by
  apply UInt8.toNat_inj.1; rw [toNat_gbackB, toNat_gsubB, (gback_sub (u8_lt c)).1]
theorem gsub_gback (c : UInt8) : gsubB (gbackB c) = c := by
  apply UInt8.toNat_inj.1; rw [toNat_gsubB, toNat_gbackB, (gback_sub (u8_lt c)).2.1]

/-- The last word, turned as it is at step i. -/
def lastW (n i : Nat) (p : UInt8) (t : List UInt8) : List UInt8 :=
  if i % n = 0 then [gsubB (t.getD 1 0) ^^^ p, gsubB (t.getD 2 0), gsubB (t.getD 3 0), gsubB (t.getD 0 0)]
  else if n = 8 ∧ i % n = 4 then t.map gsubB else t
def expS (n i : Nat) (p : UInt8) (l : List UInt8) : List UInt8 := l ++ xorL ((l.drop (4 * (i - n))).take 4) (lastW n i p (l.drop (l.length - 4)))
def powS (n i : Nat) (p : UInt8) : UInt8 := if i % n = 0 then gmulB p 2 else p
def expF (n : Nat) : Nat → Nat → UInt8 → List UInt8 → List UInt8
  | 0, _, _, l => l
  | f + 1, i, p, l => expF n f (i + 1) (powS n i p) (expS n i p l)
def expL (key : List UInt8) : List UInt8 := expF (key.length / 4) (3 * (key.length / 4) + 28) (key.length / 4) 1 key

theorem lastW_length (n i : Nat) (p : UInt8) (t : List UInt8) (h : t.length = 4) : (lastW n i p t).length = 4 := by
  unfold lastW; split
  · rfl
  · split
    · simpa using h
    · exact h

theorem expS_length (n i : Nat) (p : UInt8) (l : List UInt8) (hn : 1 ≤ n) (hi : n ≤ i) (hl : l.length = 4 * i) : (expS n i p l).length = 4 * (i + 1) := by
  unfold expS
  rw [List.length_append, xorL_length, lastW_length _ _ _ _ (by rw [List.length_drop]; omega), List.length_take, List.length_drop]
  omega

theorem expF_pre (n : Nat) (hn : 1 ≤ n) : ∀ (f i : Nat) (p : UInt8) (l : List UInt8), n ≤ i → l.length = 4 * i → (expF n f i p l).length = 4 * (i + f) ∧ ∃ r, expF n f i p l = l ++ r
  | 0, i, p, l, _, hl => ⟨hl, [], by rw [List.append_nil]; rfl⟩
  | f + 1, i, p, l, hi, hl => by
    obtain ⟨h1, r, h2⟩ := expF_pre n hn f (i + 1) (powS n i p) (expS n i p l) (by omega) (expS_length n i p l hn hi hl)
    refine ⟨by rw [expF, h1]; omega, xorL ((l.drop (4 * (i - n))).take 4) (lastW n i p (l.drop (l.length - 4))) ++ r, ?_⟩
    rw [expF, h2, expS, List.append_assoc]

theorem expL_pre (key : List UInt8) (hk : key.length = 16 ∨ key.length = 32) : (expL key).length = 16 * (key.length / 4 + 7) ∧ ∃ r, expL key = key ++ r := by
  obtain ⟨h1, h2⟩ := expF_pre (key.length / 4) (by omega) (3 * (key.length / 4) + 28) (key.length / 4) 1 key (Nat.le_refl _) (by omega)
  exact ⟨by unfold expL; rw [h1]; omega, h2⟩

def rowsL (t : Nat) (b : List UInt8) : List UInt8 := (List.range 16).map fun i => b.getD (i % 4 + 4 * ((i / 4 + t * (i % 4)) % 4)) 0
def colF (y : List UInt8) (b : List UInt8) (i : Nat) : Nat → UInt8
  | 0 => 0
  | k + 1 => colF y b i k ^^^ gmulB (y.getD ((k + 4 - i % 4) % 4) 0) (b.getD (4 * (i / 4) + k) 0)
def colsL (y : List UInt8) (b : List UInt8) : List UInt8 := (List.range 16).map fun i => colF y b i 4

theorem rowsL_length (t : Nat) (b : List UInt8) : (rowsL t b).length = 16 := by simp [rowsL]
theorem colsL_length (y b : List UInt8) : (colsL y b).length = 16 := by simp [colsL]

theorem sixteen {b : List UInt8} (h : b.length = 16) : ∃ a0 a1 a2 a3 a4 a5 a6 a7 a8 a9 a10 a11 a12 a13 a14 a15, b = [a0, a1, a2, a3, a4, a5, a6, a7, a8, a9, a10, a11, a12, a13, a14, a15] := by
  match b, h with
  | [a0, a1, a2, a3, a4, a5, a6, a7, a8, a9, a10, a11, a12, a13, a14, a15], _ => exact ⟨a0, a1, a2, a3, a4, a5, a6, a7, a8, a9, a10, a11, a12, a13, a14, a15, rfl⟩

theorem rows_31 (b : List UInt8) (h : b.length = 16) : rowsL 3 (rowsL 1 b) = b := by
  obtain ⟨a0, a1, a2, a3, a4, a5, a6, a7, a8, a9, a10, a11, a12, a13, a14, a15, rfl⟩ := sixteen h
  rfl
theorem rows_13 (b : List UInt8) (h : b.length = 16) : rowsL 1 (rowsL 3 b) = b := by
  obtain ⟨a0, a1, a2, a3, a4, a5, a6, a7, a8, a9, a10, a11, a12, a13, a14, a15, rfl⟩ := sixteen h
  rfl

/-- One byte of a column. -/
def col1 (y0 y1 y2 y3 a b c d : UInt8) : UInt8 := 0 ^^^ gmulB y0 a ^^^ gmulB y1 b ^^^ gmulB y2 c ^^^ gmulB y3 d

theorem colsL_eq (y0 y1 y2 y3 a0 a1 a2 a3 a4 a5 a6 a7 a8 a9 a10 a11 a12 a13 a14 a15 : UInt8) :
    colsL [y0, y1, y2, y3] [a0, a1, a2, a3, a4, a5, a6, a7, a8, a9, a10, a11, a12, a13, a14, a15] =
      [col1 y0 y1 y2 y3 a0 a1 a2 a3, col1 y3 y0 y1 y2 a0 a1 a2 a3, col1 y2 y3 y0 y1 a0 a1 a2 a3, col1 y1 y2 y3 y0 a0 a1 a2 a3,
       col1 y0 y1 y2 y3 a4 a5 a6 a7, col1 y3 y0 y1 y2 a4 a5 a6 a7, col1 y2 y3 y0 y1 a4 a5 a6 a7, col1 y1 y2 y3 y0 a4 a5 a6 a7,
       col1 y0 y1 y2 y3 a8 a9 a10 a11, col1 y3 y0 y1 y2 a8 a9 a10 a11, col1 y2 y3 y0 y1 a8 a9 a10 a11, col1 y1 y2 y3 y0 a8 a9 a10 a11,
       col1 y0 y1 y2 y3 a12 a13 a14 a15, col1 y3 y0 y1 y2 a12 a13 a14 a15, col1 y2 y3 y0 y1 a12 a13 a14 a15, col1 y1 y2 y3 y0 a12 a13 a14 a15] := by
  rfl

theorem gmulB_xor (a x y : UInt8) : gmulB a (x ^^^ y) = gmulB a x ^^^ gmulB a y := by
  apply UInt8.toNat_inj.1
  rw [UInt8.toNat_xor, toNat_gmulB, toNat_gmulB, toNat_gmulB, UInt8.toNat_xor, gmul_xor_r]
theorem gmulB_zero (a : UInt8) : gmulB a 0 = 0 := by
  apply UInt8.toNat_inj.1
  rw [toNat_gmulB]
  exact gmul_zero _

theorem all_bytes {p : UInt8 → Bool} (h : (List.range 256).all (fun n => p (UInt8.ofNat n)) = true) (x : UInt8) : p x = true := by
  have := all1_spec (p := fun n => p (UInt8.ofNat n)) h (u8_lt x)
  simpa using this

theorem zero_xor8 (x : UInt8) : 0 ^^^ x = x := by
  apply UInt8.toNat_inj.1; rw [UInt8.toNat_xor]; simp
theorem xor_zero8 (x : UInt8) : x ^^^ 0 = x := by
  apply UInt8.toNat_inj.1; rw [UInt8.toNat_xor]; simp

instance : Std.Commutative (α := UInt8) (· ^^^ ·) := ⟨fun x y => by apply UInt8.toNat_inj.1; rw [UInt8.toNat_xor, UInt8.toNat_xor, Nat.xor_comm]⟩
instance : Std.Associative (α := UInt8) (· ^^^ ·) := ⟨fun x y z => by apply UInt8.toNat_inj.1; simp only [UInt8.toNat_xor]; rw [Nat.xor_assoc]⟩

/-- One row of one matrix times another: what each byte gives. -/
theorem col_inv (z0 z1 z2 z3 y0 y1 y2 y3 : UInt8)
    (h0 : ∀ x, gmulB z0 (gmulB y0 x) ^^^ gmulB z1 (gmulB y3 x) ^^^ gmulB z2 (gmulB y2 x) ^^^ gmulB z3 (gmulB y1 x) = x)
    (h1 : ∀ x, gmulB z0 (gmulB y1 x) ^^^ gmulB z1 (gmulB y0 x) ^^^ gmulB z2 (gmulB y3 x) ^^^ gmulB z3 (gmulB y2 x) = 0)
    (h2 : ∀ x, gmulB z0 (gmulB y2 x) ^^^ gmulB z1 (gmulB y1 x) ^^^ gmulB z2 (gmulB y0 x) ^^^ gmulB z3 (gmulB y3 x) = 0)
    (h3 : ∀ x, gmulB z0 (gmulB y3 x) ^^^ gmulB z1 (gmulB y2 x) ^^^ gmulB z2 (gmulB y1 x) ^^^ gmulB z3 (gmulB y0 x) = 0) (a b c d : UInt8) :
    col1 z0 z1 z2 z3 (col1 y0 y1 y2 y3 a b c d) (col1 y3 y0 y1 y2 a b c d) (col1 y2 y3 y0 y1 a b c d) (col1 y1 y2 y3 y0 a b c d) = a := by
  have e : col1 z0 z1 z2 z3 (col1 y0 y1 y2 y3 a b c d) (col1 y3 y0 y1 y2 a b c d) (col1 y2 y3 y0 y1 a b c d) (col1 y1 y2 y3 y0 a b c d) =
      (gmulB z0 (gmulB y0 a) ^^^ gmulB z1 (gmulB y3 a) ^^^ gmulB z2 (gmulB y2 a) ^^^ gmulB z3 (gmulB y1 a)) ^^^
      (gmulB z0 (gmulB y1 b) ^^^ gmulB z1 (gmulB y0 b) ^^^ gmulB z2 (gmulB y3 b) ^^^ gmulB z3 (gmulB y2 b)) ^^^
      (gmulB z0 (gmulB y2 c) ^^^ gmulB z1 (gmulB y1 c) ^^^ gmulB z2 (gmulB y0 c) ^^^ gmulB z3 (gmulB y3 c)) ^^^
      (gmulB z0 (gmulB y3 d) ^^^ gmulB z1 (gmulB y2 d) ^^^ gmulB z2 (gmulB y1 d) ^^^ gmulB z3 (gmulB y0 d)) := by
    simp only [col1, gmulB_xor, gmulB_zero, zero_xor8]
    ac_rfl
  rw [e, h0, h1, h2, h3, xor_zero8, xor_zero8, xor_zero8]

theorem cols_inv (z0 z1 z2 z3 y0 y1 y2 y3 : UInt8)
    (h0 : ∀ x, gmulB z0 (gmulB y0 x) ^^^ gmulB z1 (gmulB y3 x) ^^^ gmulB z2 (gmulB y2 x) ^^^ gmulB z3 (gmulB y1 x) = x)
    (h1 : ∀ x, gmulB z0 (gmulB y1 x) ^^^ gmulB z1 (gmulB y0 x) ^^^ gmulB z2 (gmulB y3 x) ^^^ gmulB z3 (gmulB y2 x) = 0)
    (h2 : ∀ x, gmulB z0 (gmulB y2 x) ^^^ gmulB z1 (gmulB y1 x) ^^^ gmulB z2 (gmulB y0 x) ^^^ gmulB z3 (gmulB y3 x) = 0)
    (h3 : ∀ x, gmulB z0 (gmulB y3 x) ^^^ gmulB z1 (gmulB y2 x) ^^^ gmulB z2 (gmulB y1 x) ^^^ gmulB z3 (gmulB y0 x) = 0) (b : List UInt8) (hb : b.length = 16) :
    colsL [z0, z1, z2, z3] (colsL [y0, y1, y2, y3] b) = b := by
  obtain ⟨a0, a1, a2, a3, a4, a5, a6, a7, a8, a9, a10, a11, a12, a13, a14, a15, rfl⟩ := sixteen hb
  have r0 := col_inv z0 z1 z2 z3 y0 y1 y2 y3 h0 h1 h2 h3
  have r1 : ∀ a b c d : UInt8, col1 z3 z0 z1 z2 (col1 y0 y1 y2 y3 a b c d) (col1 y3 y0 y1 y2 a b c d) (col1 y2 y3 y0 y1 a b c d) (col1 y1 y2 y3 y0 a b c d) = b := fun a b c d => by
    refine Eq.trans ?_ (r0 b c d a)
    simp only [col1, gmulB_xor, gmulB_zero, zero_xor8]
    ac_rfl
  have r2 : ∀ a b c d : UInt8, col1 z2 z3 z0 z1 (col1 y0 y1 y2 y3 a b c d) (col1 y3 y0 y1 y2 a b c d) (col1 y2 y3 y0 y1 a b c d) (col1 y1 y2 y3 y0 a b c d) = c := fun a b c d => by
    refine Eq.trans ?_ (r0 c d a b)
    simp only [col1, gmulB_xor, gmulB_zero, zero_xor8]
    ac_rfl
  have r3 : ∀ a b c d : UInt8, col1 z1 z2 z3 z0 (col1 y0 y1 y2 y3 a b c d) (col1 y3 y0 y1 y2 a b c d) (col1 y2 y3 y0 y1 a b c d) (col1 y1 y2 y3 y0 a b c d) = d := fun a b c d => by
    refine Eq.trans ?_ (r0 d a b c)
    simp only [col1, gmulB_xor, gmulB_zero, zero_xor8]
    ac_rfl
  rw [colsL_eq, colsL_eq]
  simp only [r0, r1, r2, r3]

theorem beq_of {f g : UInt8 → UInt8} (h : (List.range 256).all (fun n => f (UInt8.ofNat n) == g (UInt8.ofNat n)) = true) (x : UInt8) : f x = g x := by
  have := all_bytes (p := fun x => f x == g x) h x
  simpa using this

theorem cols_back (b : List UInt8) (hb : b.length = 16) : colsL [14, 11, 13, 9] (colsL [2, 3, 1, 1] b) = b :=
  cols_inv 14 11 13 9 2 3 1 1 (beq_of (by decide +kernel)) (beq_of (g := fun _ => 0) (by decide +kernel)) (beq_of (g := fun _ => 0) (by decide +kernel)) (beq_of (g := fun _ => 0) (by decide +kernel)) b hb
theorem cols_forth (b : List UInt8) (hb : b.length = 16) : colsL [2, 3, 1, 1] (colsL [14, 11, 13, 9] b) = b :=
  cols_inv 2 3 1 1 14 11 13 9 (beq_of (by decide +kernel)) (beq_of (g := fun _ => 0) (by decide +kernel)) (beq_of (g := fun _ => 0) (by decide +kernel)) (beq_of (g := fun _ => 0) (by decide +kernel)) b hb

def encR (W : List UInt8) (r : Nat) (s : List UInt8) : List UInt8 :=
  xorL (if 16 < W.length - 16 * (r + 1) then colsL [2, 3, 1, 1] (rowsL 1 (s.map gsubB)) else rowsL 1 (s.map gsubB)) (W.drop (16 * (r + 1)))
def decR (W : List UInt8) (r : Nat) (s : List UInt8) : List UInt8 :=
  (rowsL 3 (if 16 < W.length - 16 * (r + 1) then colsL [14, 11, 13, 9] (xorL s (W.drop (16 * (r + 1)))) else xorL s (W.drop (16 * (r + 1))))).map gbackB
def encS (W : List UInt8) : Nat → List UInt8 → List UInt8
  | 0, b => xorL b W
  | r + 1, b => encR W r (encS W r b)
def decS (W : List UInt8) : Nat → List UInt8 → List UInt8
  | 0, s => xorL s W
  | r + 1, s => decS W r (decR W r s)

theorem xorL_twice' : ∀ (s K : List UInt8), s.length ≤ K.length → xorL (xorL s K) K = s
  | [], K, _ => by cases K <;> rfl
  | a :: s, [], h => by simp at h
  | a :: s, c :: K, h => by
    have ih := xorL_twice' s K (by simpa using h)
    unfold xorL at ih ⊢
    simp only [List.zipWith_cons_cons]
    rw [ih]
    congr 1
    apply UInt8.toNat_inj.1
    rw [UInt8.toNat_xor, UInt8.toNat_xor, Nat.xor_assoc, Nat.xor_self, Nat.xor_zero]

theorem map_back (s : List UInt8) : (s.map gsubB).map gbackB = s := by
  rw [List.map_map, show gbackB ∘ gsubB = id from funext gback_gsub, List.map_id]
theorem map_forth (s : List UInt8) : (s.map gbackB).map gsubB = s := by
  rw [List.map_map, show gsubB ∘ gbackB = id from funext gsub_gback, List.map_id]

theorem encR_length (W : List UInt8) (r : Nat) (s : List UInt8) (hW : 16 * (r + 2) ≤ W.length) : (encR W r s).length = 16 := by
  unfold encR
  rw [xorL_length, List.length_drop]
  split <;> first | (rw [colsL_length]; omega) | (rw [rowsL_length]; omega)
theorem decR_length (W : List UInt8) (r : Nat) (s : List UInt8) : (decR W r s).length = 16 := by
  unfold decR
  rw [List.length_map, rowsL_length]

theorem dec_enc (W : List UInt8) (r : Nat) (s : List UInt8) (hs : s.length = 16) (hW : 16 * (r + 2) ≤ W.length) : decR W r (encR W r s) = s := by
  unfold decR encR
  have ls : (s.map gsubB).length = 16 := by simpa using hs
  by_cases h : 16 < W.length - 16 * (r + 1)
  · rw [if_pos h, if_pos h, xorL_twice' _ _ (by rw [colsL_length, List.length_drop]; omega), cols_back _ (rowsL_length _ _), rows_31 _ ls, map_back]
  · rw [if_neg h, if_neg h, xorL_twice' _ _ (by rw [rowsL_length, List.length_drop]; omega), rows_31 _ ls, map_back]
theorem enc_dec (W : List UInt8) (r : Nat) (s : List UInt8) (hs : s.length = 16) (hW : 16 * (r + 2) ≤ W.length) : encR W r (decR W r s) = s := by
  have lx : (xorL s (W.drop (16 * (r + 1)))).length = 16 := by rw [xorL_length, List.length_drop]; omega
  unfold decR encR
  rw [map_forth]
  by_cases h : 16 < W.length - 16 * (r + 1)
  · rw [if_pos h, if_pos h, rows_13 _ (colsL_length _ _), cols_forth _ lx, xorL_twice' _ _ (by rw [List.length_drop]; omega)]
  · rw [if_neg h, if_neg h, rows_13 _ lx, xorL_twice' _ _ (by rw [List.length_drop]; omega)]

theorem encS_length (W : List UInt8) (b : List UInt8) (hb : b.length = 16) : ∀ r, 16 * (r + 1) ≤ W.length → (encS W r b).length = 16
  | 0, h => by rw [encS, xorL_length]; omega
  | r + 1, h => by rw [encS]; exact encR_length _ _ _ h
theorem decS_length (W : List UInt8) (s : List UInt8) (hs : s.length = 16) : ∀ r s, s.length = 16 → 16 ≤ W.length → (decS W r s).length = 16
  | 0, s, hs, h => by rw [decS, xorL_length]; omega
  | r + 1, s, _, h => by rw [decS]; exact decS_length W _ (decR_length W r s) r _ (decR_length _ _ _) h

theorem decS_encS (W : List UInt8) (b : List UInt8) (hb : b.length = 16) : ∀ r, 16 * (r + 1) ≤ W.length → decS W r (encS W r b) = b
  | 0, h => by rw [decS, encS, xorL_twice' _ _ (by omega)]
  | r + 1, h => by rw [decS, encS, dec_enc W r _ (encS_length W b hb r (by omega)) h, decS_encS W b hb r (by omega)]
theorem encS_decS (W : List UInt8) : ∀ r s, s.length = 16 → 16 * (r + 1) ≤ W.length → encS W r (decS W r s) = s
  | 0, s, hs, h => by rw [decS, encS, xorL_twice' _ _ (by omega)]
  | r + 1, s, hs, h => by rw [decS, encS, encS_decS W r _ (decR_length _ _ _) (by omega), enc_dec W r s hs h]

def encL (key text : List UInt8) : List UInt8 := encS (expL key) (key.length / 4 + 6) text
def decL (key text : List UInt8) : List UInt8 := decS (expL key) (key.length / 4 + 6) text

theorem decL_encL (key text : List UInt8) (hk : key.length = 16 ∨ key.length = 32) (ht : text.length = 16) : decL key (encL key text) = text := decS_encS _ _ ht _ (by rw [(expL_pre key hk).1]; omega)
theorem encL_decL (key text : List UInt8) (hk : key.length = 16 ∨ key.length = 32) (ht : text.length = 16) : encL key (decL key text) = text := encS_decS _ _ _ ht (by rw [(expL_pre key hk).1]; omega)
theorem encL_length (key text : List UInt8) (hk : key.length = 16 ∨ key.length = 32) (ht : text.length = 16) : (encL key text).length = 16 := encS_length _ _ ht _ (by rw [(expL_pre key hk).1]; omega)
theorem decL_length (key text : List UInt8) (hk : key.length = 16 ∨ key.length = 32) (ht : text.length = 16) : (decL key text).length = 16 := decS_length _ text ht _ _ ht (by rw [(expL_pre key hk).1]; omega)

def hexB (n k : Nat) : List UInt8 := (List.range k).map fun i => UInt8.ofNat (n / 256 ^ (k - 1 - i))
theorem aes_vec1 : encL (hexB 0x000102030405060708090a0b0c0d0e0f 16) (hexB 0x00112233445566778899aabbccddeeff 16) = hexB 0x69c4e0d86a7b0430d8cdb78070b4c55a 16 := by decide +kernel
theorem aes_vec2 : encL (hexB 0x000102030405060708090a0b0c0d0e0f101112131415161718191a1b1c1d1e1f 32) (hexB 0x00112233445566778899aabbccddeeff 16) = hexB 0x8ea2b7ca516745bfeafc49904b496089 16 := by decide +kernel

end Go.Proofs.YtffeekfofbcobaaGreat
