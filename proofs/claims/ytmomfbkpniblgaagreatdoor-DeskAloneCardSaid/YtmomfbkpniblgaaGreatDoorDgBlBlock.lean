/- BLAKE2s: a block taken. -/
import Derived.Test.YtmomfbkpniblgaaGreatDoorDgBlConst
import Derived.Test.YtmomfbkpniblgaaGreatDoorDgShaHash
import Derived.Deep.QuietTactic
import Derived.BigQuiet
namespace Go.Proofs.YtmomfbkpniblgaaGreatDoor
open Go.RowKit
set_option linter.unusedVariables false

/-- 'copy' of a whole block's cells into a place of another one. -/
theorem copy_words (w : World) (S D o n sc : Nat) (t1 t2 : TypeId) (xs ys : List Nat) (hS : HB w S t1 xs) (hD : HB w D t2 ys) (hn : xs.length = n) (ho : o + n ≤ ys.length) :
    (Builtin.copy_ #[339, 339] 3 #[.slice (some ⟨D, o, none⟩) n sc, .slice (some ⟨S, 0, none⟩) n n]).run Tryz.prog w = .ok (.int .i64 (n : Int)) (w.setCells D o (xs.map c32)) := by
  have := run_copy_cells (P := Tryz.prog) w 339 339 3 33 D o n sc ⟨S, 0, none⟩ n n (xs.map c32) Tryz.underlying339 info_u32 (by simp [hn]) ?_ ?_ ?_ ?_
  · rw [List.length_map, hn] at this
    exact this
  · intro j v hj
    have e : (⟨S, 0, none⟩ : Addr).add j = ⟨S, j, none⟩ := by cases j <;> simp [Addr.add]
    rw [e, Blk.cell hS j, hj]
  · intro j hj
    have hj' : j < n := by simpa [hn] using hj
    rw [Blk.cell hD (o + j), List.getElem?_eq_getElem (by simp; omega)]
    rfl
  · intro j hj
    exact Blk.frozen hD _
  · intro v hv
    obtain ⟨n, _, rfl⟩ := List.mem_map.1 hv
    rfl
theorem hb_setCells {D : Nat} {t : TypeId} : ∀ (xs : List Nat) (w : World) (ys : List Nat) (o : Nat), HB w D t ys → o + xs.length ≤ ys.length → HB (w.setCells D o (xs.map c32)) D t (ys.take o ++ xs ++ ys.drop (o + xs.length))
  | [], w, ys, o, h, _ => by simpa [World.setCells] using h
  | x :: xs, w, ys, o, h, hl => by
    simp only [List.map_cons, World.setCells]
    have hl' : o + 1 + xs.length ≤ (ys.set o x).length := by simp at hl ⊢; omega
    have := hb_setCells xs (w.setCell ⟨D, o, none⟩ (.int .u32 (x : Int))) (ys.set o x) (o + 1) (h.set o x) hl'
    have e : (ys.set o x).take (o + 1) ++ xs ++ (ys.set o x).drop (o + 1 + xs.length) = ys.take o ++ (x :: xs) ++ ys.drop (o + (x :: xs).length) := by
      have q : o < ys.length := by simp at hl; omega
      rw [List.take_succ_eq_append_getElem (by simpa using q), List.getElem_set_self, List.take_set_of_le (Nat.le_refl _), List.drop_set_of_lt (by omega)]
      simp only [List.length_cons, List.append_assoc, List.cons_append, List.nil_append]
      rw [show o + 1 + xs.length = o + (xs.length + 1) from by omega]
    rw [e] at this
    exact this

def mK (b : List UInt8) (i : Nat) : List Nat := blWords b i ++ List.replicate (16 - i) 0
theorem blWords_length (b : List UInt8) (n : Nat) : (blWords b n).length = n := by simp [blWords]
theorem mK_length (b : List UInt8) (i : Nat) (h : i ≤ 16) : (mK b i).length = 16 := by unfold mK; rw [List.length_append, blWords_length, List.length_replicate]; omega
theorem mK_set (b : List UInt8) (i : Nat) (h : i < 16) : (mK b i).set i (leN ((b.drop (4 * i)).take 4)) = mK b (i + 1) := by
  unfold mK
  rw [List.set_append_right _ _ (by rw [blWords_length]; omega), blWords_length, Nat.sub_self, show 16 - i = (16 - (i + 1)) + 1 from by omega, List.replicate_succ, List.set_cons_zero]
  have : blWords b (i + 1) = blWords b i ++ [leN ((b.drop (4 * i)).take 4)] := by unfold blWords; rw [List.range_succ, List.map_append]; rfl
  rw [this, List.append_assoc]
  rfl
theorem mK_all (b : List UInt8) : mK b 16 = blWords b 16 := by unfold mK; simp
theorem leN_4 (l : List UInt8) : leN (l.take 4) < 4294967296 := by
  refine Nat.lt_of_lt_of_le (leN_lt _) ?_
  exact (Nat.pow_le_pow_right (by omega) (by rw [List.length_take]; omega) : 256 ^ (l.take 4).length ≤ 256 ^ 4)
theorem blWords_small (b : List UInt8) (n : Nat) : Small32 (blWords b n) := by
  intro x hx
  obtain ⟨i, _, rfl⟩ := List.mem_map.1 hx
  exact leN_4 _
theorem set_small {L : List Nat} (h : Small32 L) (i n : Nat) (hn : n < 4294967296) : Small32 (L.set i n) := by
  intro x hx
  rcases List.mem_or_eq_of_mem_set hx with h1 | h1
  · exact h x h1
  · rw [h1]; exact hn
theorem blMix4_lt {a b c d x y : Nat} (hb : b < 4294967296) (hd : d < 4294967296) : (blMix4 a b c d x y).1 < 4294967296 ∧ (blMix4 a b c d x y).2.1 < 4294967296 ∧ (blMix4 a b c d x y).2.2.1 < 4294967296 ∧ (blMix4 a b c d x y).2.2.2 < 4294967296 := by
  unfold blMix4
  simp only
  have h1 := rotl32_lt (s := 16) (xor32_lt hd (sadd_lt a (sadd b x)))
  have h2 := rotl32_lt (s := 20) (xor32_lt hb (sadd_lt c (rotl32 (d ^^^ sadd a (sadd b x)) 16)))
  refine ⟨sadd_lt _ _, ?_, sadd_lt _ _, ?_⟩
  · exact rotl32_lt (xor32_lt h2 (sadd_lt _ _))
  · exact rotl32_lt (xor32_lt h1 (sadd_lt _ _))
theorem blMix_small {L : List Nat} (h : Small32 L) (i j k l x y : Nat) : Small32 (blMix i j k l x y L) := by
  have q := blMix4_lt (a := L.getD i 0) (c := L.getD k 0) (x := x) (y := y) (getD_lt h j) (getD_lt h l)
  unfold blMix
  simp only
  exact set_small (set_small (set_small (set_small h _ _ q.1) _ _ q.2.1) _ _ q.2.2.1) _ _ q.2.2.2
theorem blMix_length (i j k l x y : Nat) (L : List Nat) : (blMix i j k l x y L).length = L.length := by simp [blMix]
def OkV (v : List Nat) : Prop := v.length = 16 ∧ Small32 v
theorem blAt_ok {v : List Nat} (h : OkV v) (p : List Nat) (x y : Nat) : OkV (blAt p x y v) := ⟨by unfold blAt; rw [blMix_length]; exact h.1, blMix_small h.2 _ _ _ _ _ _⟩
theorem blLine_ok {v : List Nat} (h : OkV v) (m l : List Nat) : ∀ i, OkV (blLine m l v i)
  | 0 => h
  | i + 1 => blAt_ok (blLine_ok h m l i) _ _ _
theorem blRounds_ok {v : List Nat} (h : OkV v) (m : List Nat) : ∀ r, OkV (blRounds m v r)
  | 0 => h
  | r + 1 => blLine_ok (blRounds_ok h m r) _ _ _
theorem blStart_ok (h : List Nat) (hl : h.length = 8) (hs : Small32 h) (many : Nat) (hm : many < 18446744073709551616) (last : Bool) : OkV (blStart h many last) := by
  have h0 : OkV (h ++ shaI) := ⟨by rw [List.length_append, hl]; rfl, by intro x hx; rcases List.mem_append.1 hx with q | q; exact hs x q; exact shaI_small x q⟩
  have h1 : OkV ((h ++ shaI).set 12 ((h ++ shaI).getD 12 0 ^^^ many % 4294967296)) := ⟨by simpa using h0.1, set_small h0.2 _ _ (xor32_lt (getD_lt h0.2 _) (Nat.mod_lt _ (by omega)))⟩
  have h2 : OkV (((h ++ shaI).set 12 ((h ++ shaI).getD 12 0 ^^^ many % 4294967296)).set 13 (((h ++ shaI).set 12 ((h ++ shaI).getD 12 0 ^^^ many % 4294967296)).getD 13 0 ^^^ many / 4294967296)) := ⟨by simpa using h1.1, set_small h1.2 _ _ (xor32_lt (getD_lt h1.2 _) (by omega))⟩
  unfold blStart
  simp only
  split
  · exact ⟨by simpa using h2.1, set_small h2.2 _ _ (xor32_lt (by omega) (getD_lt h2.2 _))⟩
  · exact h2

def xorF (h V : List Nat) : List Nat := (List.range 8).map fun i => h.getD i 0 ^^^ (V.getD i 0 ^^^ V.getD (i + 8) 0)
def xorK (h V : List Nat) (i : Nat) : List Nat := (xorF h V).take i ++ h.drop i
theorem xorF_length (h V : List Nat) : (xorF h V).length = 8 := by simp [xorF]
theorem xorK_length (h V : List Nat) (hl : h.length = 8) (i : Nat) (hi : i ≤ 8) : (xorK h V i).length = 8 := by
  unfold xorK
  rw [List.length_append, List.length_take, List.length_drop, xorF_length]
  omega
theorem xorK_at (h V : List Nat) (hl : h.length = 8) (i : Nat) (hi : i < 8) : (xorK h V i)[i]? = some (h.getD i 0) := by
  unfold xorK
  rw [List.getElem?_append_right (by rw [List.length_take, xorF_length]; omega), List.length_take, xorF_length, List.getElem?_drop, show i + (i - min i 8) = i from by omega]
  exact getD_some h i (by omega)
theorem xorK_set (h V : List Nat) (hl : h.length = 8) (i : Nat) (hi : i < 8) : (xorK h V i).set i (h.getD i 0 ^^^ (V.getD i 0 ^^^ V.getD (i + 8) 0)) = xorK h V (i + 1) := by
  unfold xorK
  have l := xorF_length h V
  rw [List.set_append_right _ _ (by rw [List.length_take]; omega), List.length_take, l, show i - min i 8 = 0 from by omega, List.drop_eq_getElem_cons (show i < h.length by omega), List.set_cons_zero, List.take_succ_eq_append_getElem (show i < (xorF h V).length by omega), List.append_assoc]
  congr 2
  simp [xorF]
theorem xorK_all (h V : List Nat) (hl : h.length = 8) : xorK h V 8 = xorF h V := by
  unfold xorK
  rw [List.drop_of_length_le (by omega), List.append_nil, List.take_of_length_le (by rw [xorF_length]; omega)]
theorem hb_drew {w : World} {B : Nat} {t : TypeId} {l : List Nat} (h : HB w B t l) : HB w.drew B t l := h
def pRow (k : Nat) : Array Value := #[.int .i64 (((blPlaces.getD k []).getD 0 0 : Nat) : Int), .int .i64 (((blPlaces.getD k []).getD 1 0 : Nat) : Int), .int .i64 (((blPlaces.getD k []).getD 2 0 : Nat) : Int), .int .i64 (((blPlaces.getD k []).getD 3 0 : Nat) : Int)]
def zU : List Value := List.replicate 16 (.int .u8 0)
def zP : List Value := List.replicate 32 (.int .i64 0)
theorem c8_mem (l : List Nat) : ∀ v ∈ l.map c8, v.oneCell' = true := by
  intro v hv
  obtain ⟨n, _, rfl⟩ := List.mem_map.1 hv
  rfl
theorem getD_set_off (L : List Nat) (i j n : Nat) (h : i ≠ j) : (L.set i n).getD j 0 = L.getD j 0 := by
  rw [List.getD_eq_getElem?_getD, List.getElem?_set_ne h, List.getD_eq_getElem?_getD]
theorem blStart_eq (h : List Nat) (many : Nat) (last : Bool) (hl : h.length = 8) : blStart h many last =
    (if last then (((h ++ shaI).set 12 ((h ++ shaI).getD 12 0 ^^^ many % 4294967296)).set 13 ((h ++ shaI).getD 13 0 ^^^ many / 4294967296)).set 14 (4294967295 ^^^ (h ++ shaI).getD 14 0)
    else ((h ++ shaI).set 12 ((h ++ shaI).getD 12 0 ^^^ many % 4294967296)).set 13 ((h ++ shaI).getD 13 0 ^^^ many / 4294967296)) := by
  unfold blStart
  simp only [getD_set_off _ 12 13 _ (by omega), getD_set_off _ 13 14 _ (by omega), getD_set_off _ 12 14 _ (by omega)]

set_option maxRecDepth 20000 in
set_option maxHeartbeats 8000000 in
theorem code_block (w : World) (h : List Nat) (b : List UInt8) (many : Nat) (last : Bool) (hl : h.length = 8) (hs : Small32 h) (hb : b.length = 64) (hm : many < 18446744073709551616) :
    Calls Tryz.prog 210 #[A32 h, S b, .int .u64 (many : Int), .bool last] w (Grown (A32 (blBlock h b many last)) w) := by
  obtain ⟨B, hB⟩ : ∃ B, B = w.heap.size := ⟨_, rfl⟩
  obtain ⟨x, hx⟩ : ∃ x, x = ((w.alloc (.cells (h.map c32).toArray 289)).alloc (.cells #[.int .u32 0, .int .u32 0, .int .u32 0, .int .u32 0, .int .u32 0, .int .u32 0, .int .u32 0, .int .u32 0] 289)).alloc (.cells #[.int .u32 0, .int .u32 0, .int .u32 0, .int .u32 0, .int .u32 0, .int .u32 0, .int .u32 0, .int .u32 0, .int .u32 0, .int .u32 0, .int .u32 0, .int .u32 0, .int .u32 0, .int .u32 0, .int .u32 0, .int .u32 0] 344) := ⟨_, rfl⟩
  have s1 : (w.alloc (.cells (h.map c32).toArray 289)).heap.size = B + 1 := by rw [hB]; simp
  have s2 : ((w.alloc (.cells (h.map c32).toArray 289)).alloc (.cells #[.int .u32 0, .int .u32 0, .int .u32 0, .int .u32 0, .int .u32 0, .int .u32 0, .int .u32 0, .int .u32 0] 289)).heap.size = B + 1 + 1 := by rw [hB]; simp
  have bH : HB x B 289 h := by rw [hx, hB]; exact obj_alloc (obj_alloc (obj_new _ _))
  have bR : HB x (B + 1) 289 [0, 0, 0, 0, 0, 0, 0, 0] := by rw [hx, ← s1]; exact obj_alloc (obj_new _ _)
  have bV : HB x (B + 1 + 1) 344 [0, 0, 0, 0, 0, 0, 0, 0, 0, 0, 0, 0, 0, 0, 0, 0] := by rw [hx, ← s2]; exact obj_new _ _
  have hgx : w.grownBy x none := by rw [hx]; exact grow_alloc (grow_alloc (grow_alloc (grow_refl w none) _) _) _
  have hcp := copy_words x.drew B (B + 1 + 1) 0 8 16 _ _ h _ bH bV hl (by simp)
  have bV1 : HB (x.drew.setCells (B + 1 + 1) 0 (h.map c32)) (B + 1 + 1) 344 (h ++ [0, 0, 0, 0, 0, 0, 0, 0]) := by
    have := hb_setCells h x.drew _ 0 bV (by simp [hl])
    rw [hl] at this
    exact this
  have g1 : x.grownBy (x.drew.setCells (B + 1 + 1) 0 (h.map c32)) (some (B + 1 + 1)) := grow_setCells _ _ _ _ _ (grow_drew (grow_refl _ _))
  have there : ∀ i, i < 8 → (x.cell? ⟨B, i, none⟩).isSome = true := fun i hi => by rw [Blk.cell bH i, List.getElem?_eq_getElem (by simp [hl]; omega)]; rfl
  obtain ⟨x1, hx1⟩ : ∃ x1, x1 = x.drew.setCells (B + 1 + 1) 0 (h.map c32) := ⟨_, rfl⟩
  rw [← hx1] at hcp bV1 g1
  have HB0 := Lib.hid hB
  have HX := Lib.hid hx
  have HL := Lib.hid hl
  have HS := Lib.hid hs
  have HBL := Lib.hid hb
  have HBH := Lib.hid (Blk.kept bH g1 (by simp; omega))
  have HBR := Lib.hid (Blk.kept bR g1 (by simp))
  have HBV := Lib.hid bV1
  have HG := Lib.hid (grow_trans_new hgx g1 (by omega))
  have h8 : (8 : Int) ≤ 16 := by omega
  clear hB hx hl hs hb s1 s2 bH bR bV hgx bV1 g1 hx1
  unfold A32 S
  go_enter Tryz.func210, Tryz.ntmps210
  go_upto_region 2 with (fail)
  rw [← HB0.out, ← HX.out]
  go_region
  go_upto_region 3 with (fail)
  go_wp2_with fail
  (with_reducible refine (code_iv _).mono ?_)
  rintro e x2 ⟨rfl, hg2⟩
  obtain ⟨I, hI⟩ : ∃ I, I = x2.heap.size := ⟨_, rfl⟩
  obtain ⟨y, hy⟩ : ∃ y, y = x2.alloc (.cells #[.int .u32 1779033703, .int .u32 3144134277, .int .u32 1013904242, .int .u32 2773480762, .int .u32 1359893119, .int .u32 2600822924, .int .u32 528734635, .int .u32 1541459225] 289) := ⟨_, rfl⟩
  have bI : HB y I 289 shaI := by rw [hy, hI]; unfold HB; rw [iCells_eq]; exact obj_new _ _
  have bV2 : HB y (B + 1 + 1) 344 (h ++ [0, 0, 0, 0, 0, 0, 0, 0]) := by rw [hy]; exact obj_alloc (Blk.kept HBV.out hg2 nofun)
  have bH2 : HB y B 289 h := by rw [hy]; exact obj_alloc (Blk.kept HBH.out hg2 nofun)
  have bR2 : HB y (B + 1) 289 [0, 0, 0, 0, 0, 0, 0, 0] := by rw [hy]; exact obj_alloc (Blk.kept HBR.out hg2 nofun)
  have hgy : w.grownBy y none := by rw [hy]; exact grow_alloc (grow_trans HG.out hg2) _
  have hIB : B + 1 + 1 < I := by rw [hI]; exact Blk.lt (Blk.kept HBV.out hg2 nofun)
  have lv : (h ++ [0, 0, 0, 0, 0, 0, 0, 0]).length = 16 := by rw [List.length_append, HL.out]; rfl
  have hcp2 := copy_words y.drew I (B + 1 + 1) 8 8 8 _ _ shaI _ bI bV2 rfl (by rw [lv]; omega)
  have bV3 : HB (y.drew.setCells (B + 1 + 1) 8 (shaI.map c32)) (B + 1 + 1) 344 (h ++ shaI) := by
    have := hb_setCells shaI y.drew _ 8 bV2 (by rw [lv]; decide)
    rw [List.take_append_of_le_length (by rw [HL.out]; omega), List.take_of_length_le (by rw [HL.out]; omega), List.drop_of_length_le (by rw [lv]; decide), List.append_nil] at this
    exact this
  have g3 : y.grownBy (y.drew.setCells (B + 1 + 1) 8 (shaI.map c32)) (some (B + 1 + 1)) := grow_setCells _ _ _ _ _ (grow_drew (grow_refl _ _))
  obtain ⟨y1, hy1⟩ : ∃ y1, y1 = y.drew.setCells (B + 1 + 1) 8 (shaI.map c32) := ⟨_, rfl⟩
  rw [← hy1] at hcp2 bV3 g3
  have HI := Lib.hid hI
  have HY := Lib.hid hy
  have HBH := Lib.hid (Blk.kept bH2 g3 (by simp; omega))
  have HBR := Lib.hid (Blk.kept bR2 g3 (by simp))
  have HG := Lib.hid (grow_trans_new hgy g3 (by have := HB0.out; omega))
  have ok0 : OkV (h ++ shaI) := ⟨by rw [List.length_append, HL.out]; rfl, by intro x hx; rcases List.mem_append.1 hx with q | q; exact HS.out x q; exact shaI_small x q⟩
  have hst := blStart_eq h many last HL.out
  have okS := Lib.hid (blStart_ok h HL.out HS.out many hm last)
  clear hI hy bI bV2 bH2 bR2 hgy hy1 g3 lv hg2
  go_upto_region 4 with (fail)
  rw [← HI.out, ← HY.out]
  go_region
  clear hcp2 there hcp
  obtain ⟨L0, hL0⟩ : ∃ L0, L0 = h ++ shaI := ⟨_, rfl⟩
  rw [← hL0] at hst bV3 ok0
  obtain ⟨v12, hv12⟩ : ∃ v, v = L0.getD 12 0 := ⟨_, rfl⟩
  obtain ⟨v13, hv13⟩ : ∃ v, v = L0.getD 13 0 := ⟨_, rfl⟩
  obtain ⟨v14, hv14⟩ : ∃ v, v = L0.getD 14 0 := ⟨_, rfl⟩
  have o12 : v12 < 4294967296 := by rw [hv12]; exact getD_lt ok0.2 _
  have o13 : v13 < 4294967296 := by rw [hv13]; exact getD_lt ok0.2 _
  have o14 : v14 < 4294967296 := by rw [hv14]; exact getD_lt ok0.2 _
  have c12 : y1.cell? ⟨B + 1 + 1, 12, none⟩ = some (.int .u32 (v12 : Int)) := hb_at bV3 (by rw [hv12]; exact getD_some L0 12 (by rw [ok0.1]; omega))
  have c13 : y1.cell? ⟨B + 1 + 1, 13, none⟩ = some (.int .u32 (v13 : Int)) := hb_at bV3 (by rw [hv13]; exact getD_some L0 13 (by rw [ok0.1]; omega))
  have c14 : y1.cell? ⟨B + 1 + 1, 14, none⟩ = some (.int .u32 (v14 : Int)) := hb_at bV3 (by rw [hv14]; exact getD_some L0 14 (by rw [ok0.1]; omega))
  have f12 := Blk.frozen bV3 12
  have f13 := Blk.frozen bV3 13
  have f14 := Blk.frozen bV3 14
  rw [← hv12, ← hv13, ← hv14] at hst
  obtain ⟨m0, hm0, lm0⟩ : ∃ m0 : Nat, many % 4294967296 = m0 ∧ m0 < 4294967296 := ⟨_, rfl, Nat.mod_lt _ (by omega)⟩
  obtain ⟨m1, hm1, lm1⟩ : ∃ m1 : Nat, many / 4294967296 = m1 ∧ m1 < 4294967296 := ⟨_, rfl, by omega⟩
  rw [hm0, hm1] at hst
  obtain ⟨z12, e12, l12⟩ := nameXor v12 m0 o12 lm0
  obtain ⟨z13, e13, l13⟩ := nameXor v13 m1 o13 lm1
  obtain ⟨z14, e14, l14⟩ := nameNot v14 o14
  rw [e12.1, e13.1, e14.1] at hst
  obtain ⟨-, e12⟩ := e12
  obtain ⟨-, e13⟩ := e13
  obtain ⟨-, e14⟩ := e14
  have e14' : bits .xor .u32 (if IntKind.u32.signed = true then -1 else IntKind.u32.max) (v14 : Int) = (z14 : Int) := e14
  have q0 : (many : Int) % 4294967296 = (m0 : Int) := by omega
  have q1 : (many : Int) / 4294967296 = (m1 : Int) := by omega
  have q1' : (many : Int) / 4294967296 % 4294967296 = (m1 : Int) := by omega
  have q2 : (m1 : Int) % 4294967296 = (m1 : Int) := by omega
  have b2 : HB ((y1.setCell ⟨B + 1 + 1, 12, none⟩ (.int .u32 (z12 : Int))).setCell ⟨B + 1 + 1, 13, none⟩ (.int .u32 (z13 : Int))) (B + 1 + 1) 344 ((L0.set 12 z12).set 13 z13) := (bV3.set 12 z12).set 13 z13
  have b3 := b2.set 14 z14
  have g2 := grow_setCell (grow_setCell (grow_refl y1 (some (B + 1 + 1))) 12 (.int .u32 (z12 : Int))) 13 (.int .u32 (z13 : Int))
  have g3 := grow_setCell g2 14 (.int .u32 (z14 : Int))
  have HST := Lib.hid hst
  have H2 := Lib.hid b2
  have H3 := Lib.hid b3
  have G2 := Lib.hid g2
  have G3 := Lib.hid g3
  clear ok0 hst bV3 hL0 hv12 hv13 hv14 hm0 hm1 b2 b3 g2 g3
  cases last
  all_goals go_upto_region 9 with (fail)
  all_goals
    first
      | (obtain ⟨xs, hxs⟩ : ∃ xs, xs = (((y1.setCell ⟨B + 1 + 1, 12, none⟩ (.int .u32 (z12 : Int))).setCell ⟨B + 1 + 1, 13, none⟩ (.int .u32 (z13 : Int))).setCell ⟨B + 1 + 1, 14, none⟩ (.int .u32 (z14 : Int))) := ⟨_, rfl⟩
         rw [← hxs]
         have hbb : ∀ V m, m = blWords b 16 → V = blRounds m (blStart h many true) 10 → blBlock h b many true = xorF h V := fun V m e1 e2 => by rw [e2, e1]; rfl
         have hv : HB xs (B + 1 + 1) 344 (blStart h many true) := by have := HST.out; rw [this, hxs]; exact H3.out
         have hg : y1.grownBy xs (some (B + 1 + 1)) := by rw [hxs]; exact G3.out
         clear hxs)
      | (obtain ⟨xs, hxs⟩ : ∃ xs, xs = ((y1.setCell ⟨B + 1 + 1, 12, none⟩ (.int .u32 (z12 : Int))).setCell ⟨B + 1 + 1, 13, none⟩ (.int .u32 (z13 : Int))) := ⟨_, rfl⟩
         rw [← hxs]
         have hbb : ∀ V m, m = blWords b 16 → V = blRounds m (blStart h many false) 10 → blBlock h b many false = xorF h V := fun V m e1 e2 => by rw [e2, e1]; rfl
         have hv : HB xs (B + 1 + 1) 344 (blStart h many false) := by have := HST.out; rw [this, hxs]; exact H2.out
         have hg : y1.grownBy xs (some (B + 1 + 1)) := by rw [hxs]; exact G2.out
         clear hxs)
    obtain ⟨V0, hV0, okS⟩ : ∃ V0, V0 = _ ∧ Hid (OkV V0) := ⟨_, rfl, okS⟩
    rw [← hV0] at hv hbb
    have HBB := Lib.hid hbb
    clear hV0 hbb
    clear c12 c13 c14 f12 f13 f14 e12 e13 e14 e14' q0 q1 q1' q2 HST H2 H3 G2 G3
    have bH := Blk.kept HBH.out hg (by simp; omega)
    have bR := Blk.kept HBR.out hg (by simp)
    obtain ⟨M, hM⟩ : ∃ M, M = xs.heap.size := ⟨_, rfl⟩
    obtain ⟨z, hz⟩ : ∃ z, z = xs.alloc (.cells #[.int .u32 0, .int .u32 0, .int .u32 0, .int .u32 0, .int .u32 0, .int .u32 0, .int .u32 0, .int .u32 0, .int .u32 0, .int .u32 0, .int .u32 0, .int .u32 0, .int .u32 0, .int .u32 0, .int .u32 0, .int .u32 0] 334) := ⟨_, rfl⟩
    have bM : HB z M 334 (mK b 0) := by rw [hz, hM]; exact obj_new _ _
    have hMB : B + 1 + 1 < M := by rw [hM]; exact Blk.lt hv
    have HBV := Lib.hid (show HB z (B + 1 + 1) 344 _ by rw [hz]; exact obj_alloc hv)
    have HBH := Lib.hid (show HB z B 289 h by rw [hz]; exact obj_alloc bH)
    have HBR := Lib.hid (show HB z (B + 1) 289 [0, 0, 0, 0, 0, 0, 0, 0] by rw [hz]; exact obj_alloc bR)
    have HGZ := Lib.hid (show w.grownBy z none by rw [hz]; exact grow_alloc (grow_trans_new HG.out hg (by have := HB0.out; omega)) _)
    have HBM := Lib.hid bM
    have HM := Lib.hid hM
    have HZ := Lib.hid hz
    have r2 := rule_ext
    clear hv hg bH bR hM hz bM
    go_upto_region 10 with (fail)
    rw [← HM.out, ← HZ.out]
    go_wp2_with fail
    go_loopw [44] (fun v44 wr => ∃ i : Nat, i ≤ 16 ∧ v44 = .int .i64 i ∧ Hid (HB wr M 334 (mK b i)) ∧ Hid (z.grownBy wr (some M))) (fun v44 _ => 16 - (intOf v44).toNat)
    case atStart => exact ⟨0, by omega, rfl, HBM, Lib.hid (grow_refl _ _)⟩
    case round =>
      clear HBM
      obtain ⟨i, hi, rfl, hW, hg⟩ := hrel
      by_cases hlt : i < 16
      · have hst := hW.out.set i (leN ((b.drop (4 * i)).take 4))
        rw [mK_set b i hlt] at hst
        have hgs := grow_setCell hg.out i (.int .u32 ((leN ((b.drop (4 * i)).take 4) : Nat) : Int))
        have fi : wr.frozen? ⟨M, i, none⟩ = false := Blk.frozen hW.out i
        have ci : wr.cell? ⟨M, i, none⟩ = some (.int .u32 ((mK b i)[i]'(by rw [mK_length b i hi]; exact hlt) : Nat)) := hW.out.cell i _
        have hN := leN_4 (b.drop (4 * i))
        have AB : ∀ W : World, Calls Tryz.prog 92 #[.string ⟨((b.drop (4 * i)).take 4).toArray⟩] W fun e w' => e = .returned (.int .u64 (leN ((b.drop (4 * i)).take 4))) ∧ W = w' := fun W => by
          have := wire_little W ((b.drop (4 * i)).take 4) (by rw [List.length_take]; omega)
          rw [List.take_take] at this
          exact this
        have hcv : ((leN ((b.drop (4 * i)).take 4) : Nat) : Int) % 4294967296 = ((leN ((b.drop (4 * i)).take 4) : Nat) : Int) := by omega
        have lb : b.length = 64 := HBL.out
        have k1 : (4 * (i : Int)).toNat = 4 * i := by omega
        have k2 : (4 * (i : Int) + 4).toNat = 4 * i + 4 := by omega
        have k3 : 4 * i + 4 ≤ b.length := by omega
        have k4 : 4 * (i : Int) + 4 ≤ (b.length : Int) := by omega
        have HS1 := Lib.hid hst
        have HG1 := Lib.hid hgs
        clear hst hgs hW hg lb
        generalize leN ((b.drop (4 * i)).take 4) = N at *
        go_wp2_with fail
        (with_reducible refine (AB _).mono ?_)
        rintro e w1 ⟨rfl, rfl⟩
        go_wp2_with fail
        go_roundw
        case rel => exact ⟨i + 1, by omega, by go_num, HS1, HG1⟩
        case measure => simp [intOf]; omega
      · obtain rfl : i = 16 := by omega
        have bM2 : HB wr M 334 (blWords b 16) := by have := hW.out; rw [mK_all] at this; exact this
        have HBM := Lib.hid bM2
        have HBV := Lib.hid (Blk.kept HBV.out hg.out (by simp; omega))
        have HBH := Lib.hid (Blk.kept HBH.out hg.out (by simp; omega))
        have HBR := Lib.hid (Blk.kept HBR.out hg.out (by simp; omega))
        have HGW := Lib.hid (grow_trans_new HGZ.out hg.out (by have := HB0.out; omega))
        have smW := Lib.hid (blWords_small b 16)
        clear bM2 hW hg r2 hlt
        have hip : (Tryz.prog.info? 346).map (·.size) = some pCells.length := by kernel_rfl
        have hip2 : (Tryz.prog.info? 346).map (·.size) = some pCells.toArray.size := by kernel_rfl
        have hpo : pCells.toArray.all (·.oneCell') = true := by kernel_rfl
        have hzl : zP.length = pCells.length := by kernel_rfl
        have hzl2 : zP.length = pCells.toArray.size := by kernel_rfl
        have hpa := fun (W : World) (i : Nat) (h : i < 8) => places_at W i h
        obtain ⟨pc, hpc⟩ : ∃ pc, pc = pCells := ⟨_, rfl⟩
        obtain ⟨zp, hzp⟩ : ∃ zp, zp = zP := ⟨_, rfl⟩
        rw [← hpc] at hip hip2 hpa hpo hzl hzl2
        rw [← hzp] at hzl hzl2
        obtain ⟨P, hP⟩ : ∃ P, P = wr.heap.size := ⟨_, rfl⟩
        have bz : Blk (wr.alloc (.cells zp.toArray 346)) P 346 zp := by rw [hP]; exact obj_new _ _
        have hth := bz.there _ hzl2
        have bP := bz.store pc hzl.symm
        have gP : wr.grownBy ((wr.alloc (.cells zp.toArray 346)).setCells P 0 pc) none := grow_setCells_new (grow_alloc (grow_refl wr none) _) P (by omega) _ _
        obtain ⟨y2, hy2⟩ : ∃ y2, y2 = (wr.alloc (.cells zp.toArray 346)).setCells P 0 pc := ⟨_, rfl⟩
        rw [← hy2] at bP gP
        have HPC := Lib.hid hpc
        have HZP := Lib.hid hzp
        have HPP := Lib.hid hP
        have HY2 := Lib.hid hy2
        have HTH := Lib.hid hth
        have HI2 := Lib.hid hip2
        have HPO := Lib.hid hpo
        have HIP := Lib.hid hip
        have HPA := Lib.hid hpa
        obtain ⟨q0, hq0⟩ : ∃ q, q = pRow 0 := ⟨_, rfl⟩
        have Q0 := Lib.hid hq0
        clear hq0
        obtain ⟨q1, hq1⟩ : ∃ q, q = pRow 1 := ⟨_, rfl⟩
        have Q1 := Lib.hid hq1
        clear hq1
        obtain ⟨q2, hq2⟩ : ∃ q, q = pRow 2 := ⟨_, rfl⟩
        have Q2 := Lib.hid hq2
        clear hq2
        obtain ⟨q3, hq3⟩ : ∃ q, q = pRow 3 := ⟨_, rfl⟩
        have Q3 := Lib.hid hq3
        clear hq3
        obtain ⟨q4, hq4⟩ : ∃ q, q = pRow 4 := ⟨_, rfl⟩
        have Q4 := Lib.hid hq4
        clear hq4
        obtain ⟨q5, hq5⟩ : ∃ q, q = pRow 5 := ⟨_, rfl⟩
        have Q5 := Lib.hid hq5
        clear hq5
        obtain ⟨q6, hq6⟩ : ∃ q, q = pRow 6 := ⟨_, rfl⟩
        have Q6 := Lib.hid hq6
        clear hq6
        obtain ⟨q7, hq7⟩ : ∃ q, q = pRow 7 := ⟨_, rfl⟩
        have Q7 := Lib.hid hq7
        clear hq7
        clear hip hip2 hpa hpo hzl hzl2 bz hth hpc hzp hy2
        go_upto_region 15 with (fail)
        refine wp_region_lit ?_
        refine Go.Great.wpList_readTo rfl _ rfl (.agg q0) ?_ ?_
        · rw [Q0.out]
          kernel_rfl
        refine Go.Great.wpList_readTo rfl _ rfl (.agg q1) ?_ ?_
        · rw [Q1.out]
          kernel_rfl
        refine Go.Great.wpList_readTo rfl _ rfl (.agg q2) ?_ ?_
        · rw [Q2.out]
          kernel_rfl
        refine Go.Great.wpList_readTo rfl _ rfl (.agg q3) ?_ ?_
        · rw [Q3.out]
          kernel_rfl
        refine Go.Great.wpList_readTo rfl _ rfl (.agg q4) ?_ ?_
        · rw [Q4.out]
          kernel_rfl
        refine Go.Great.wpList_readTo rfl _ rfl (.agg q5) ?_ ?_
        · rw [Q5.out]
          kernel_rfl
        refine Go.Great.wpList_readTo rfl _ rfl (.agg q6) ?_ ?_
        · rw [Q6.out]
          kernel_rfl
        refine Go.Great.wpList_readTo rfl _ rfl (.agg q7) ?_ ?_
        · rw [Q7.out]
          kernel_rfl
        refine Go.Great.wpList_readTo rfl _ rfl (.agg pc.toArray) ?_ ?_
        · rw [HPC.out, Q0.out, Q1.out, Q2.out, Q3.out, Q4.out, Q5.out, Q6.out, Q7.out]
          kernel_rfl
        refine Go.Great.wpList_allocTo rfl _ rfl (.pointer (some ⟨P, 0, none⟩)) (.cells zp.toArray 346) ?_ ?_
        · rw [HZP.out, HPP.out]
          kernel_rfl
        refine wpList_store_mid rfl 346 _ _ rfl P 0 pc.toArray (by simp [Act.eval, Act.put]) (by simp [Act.eval, Act.put]) HTH.out HI2.out HPO.out ?_
        refine wpList_nil ?_
        have hy3 : (wr.alloc (.cells zp.toArray 346)).setCells P 0 pc.toArray.toList = y2 := HY2.out.symm
        rw [hy3]
        clear hy3
        have hMP : M < P := by rw [hP]; exact Blk.lt HBM.out
        have HBM := Lib.hid (Blk.kept HBM.out gP nofun)
        have HBV := Lib.hid (Blk.kept HBV.out gP nofun)
        have HBH := Lib.hid (Blk.kept HBH.out gP nofun)
        have HBR := Lib.hid (Blk.kept HBR.out gP nofun)
        have HGW := Lib.hid (grow_trans HGW.out gP)
        have HBP := Lib.hid bP
        clear hP bP gP
        go_wp2_with fail
        (with_reducible refine (code_lines _).mono ?_)
        rintro e y3 ⟨rfl, hg3⟩
        have HBM := Lib.hid (Blk.kept HBM.out hg3 nofun)
        have HBV := Lib.hid (Blk.kept HBV.out hg3 nofun)
        have HBH := Lib.hid (Blk.kept HBH.out hg3 nofun)
        have HBR := Lib.hid (Blk.kept HBR.out hg3 nofun)
        have HBP := Lib.hid (Blk.kept HBP.out hg3 nofun)
        have HGW := Lib.hid (grow_trans HGW.out hg3)
        have hla := fun (W : World) (r : Nat) (h : r < 10) => lines_at W r h
        obtain ⟨lc, hlc⟩ : ∃ lc, lc = lCells := ⟨_, rfl⟩
        rw [← hlc] at hla ⊢
        have HLA := Lib.hid hla
        clear hg3 hla hlc
        obtain ⟨m, hmw⟩ : ∃ m, m = blWords b 16 := ⟨_, rfl⟩
        have lm : m.length = 16 := by rw [hmw]; exact blWords_length _ _
        rw [← hmw] at HBM smW
        have HMW := Lib.hid hmw
        have HLM := Lib.hid lm
        clear hmw lm
        go_wp2_with fail
        go_loopw [69] (fun v69 wr => ∃ r : Nat, r ≤ 10 ∧ v69 = .int .i64 r ∧ Hid (HB wr (B + 1 + 1) 344 (blRounds m V0 r)) ∧ Hid (y3.grownBy wr (some (B + 1 + 1)))) (fun v69 _ => 10 - (intOf v69).toNat)
        case atStart => exact ⟨0, by omega, rfl, HBV, Lib.hid (grow_refl _ _)⟩
        case round =>
          clear HBV
          obtain ⟨r, hr, rfl, hV, hg⟩ := hrel
          by_cases hlt : r < 10
          · have ix := fun W => HLA.out W r hlt
            have lR := lines_len r hlt
            have sR := lines_small r hlt
            obtain ⟨R, hR⟩ : ∃ R, R = blLines.getD r [] := ⟨_, rfl⟩
            rw [← hR] at ix lR sR
            have hnx : blRounds m V0 (r + 1) = blLine m R (blRounds m V0 r) 8 := by rw [hR]; rfl
            have HNX := Lib.hid hnx
            have okV := Lib.hid (blRounds_ok okS.out m r)
            obtain ⟨Vr, hVr⟩ : ∃ Vr, Vr = blRounds m V0 r := ⟨_, rfl⟩
            rw [← hVr] at hV HNX okV
            have HLR := Lib.hid lR
            have HSR := Lib.hid sR
            obtain ⟨Lb, hLb⟩ : ∃ Lb, Lb = wr.heap.size := ⟨_, rfl⟩
            have bz : Blk (wr.alloc (.cells zU.toArray 224)) Lb 224 zU := by rw [hLb]; exact obj_new _ _
            have hiL : (Tryz.prog.info? 224).map (·.size) = some (R.map c8).toArray.size := by rw [List.size_toArray, List.length_map, lR]; kernel_rfl
            have hthL := bz.there ((R.map c8).toArray.size) (by rw [List.size_toArray, List.length_map, lR]; rfl)
            have bL0 := bz.store (R.map c8) (by rw [List.length_map, lR]; rfl)
            have hoL : (R.map c8).toArray.all (·.oneCell') = true := all_oneCell_toArray (c8_mem R)
            have gL0 : wr.grownBy ((wr.alloc (.cells zU.toArray 224)).setCells Lb 0 (R.map c8)) none := grow_setCells_new (grow_alloc (grow_refl wr none) _) Lb (by omega) _ _
            obtain ⟨x0, hx0⟩ : ∃ x0, x0 = (wr.alloc (.cells zU.toArray 224)).setCells Lb 0 (R.map c8) := ⟨_, rfl⟩
            rw [← hx0] at bL0 gL0
            have hz0 : zU.toArray = #[.int .u8 0, .int .u8 0, .int .u8 0, .int .u8 0, .int .u8 0, .int .u8 0, .int .u8 0, .int .u8 0, .int .u8 0, .int .u8 0, .int .u8 0, .int .u8 0, .int .u8 0, .int .u8 0, .int .u8 0, .int .u8 0] := rfl
            rw [hz0] at hthL hx0
            have HLBE := Lib.hid hLb
            have HTL := Lib.hid hthL
            have HIL := Lib.hid hiL
            have HOL := Lib.hid hoL
            have HX0 := Lib.hid hx0
            have IX := Lib.hid ix
            have bL : Blk x0 Lb 224 (R.map c8) := bL0
            have hBL : B + 1 + 1 < Lb := by rw [hLb]; exact Blk.lt hV.out
            have hML : M < Lb := by rw [hLb]; exact Blk.lt (Blk.kept HBM.out hg.out (by simp; omega))
            have HBL := Lib.hid bL
            have HV0 := Lib.hid (show HB x0 (B + 1 + 1) 344 Vr from Blk.kept hV.out gL0 nofun)
            have HM0 := Lib.hid (show HB x0 M 334 m from Blk.kept (Blk.kept HBM.out hg.out (by simp; omega)) gL0 nofun)
            have HP0 : Blk x0 P 346 pc := Blk.kept (Blk.kept HBP.out hg.out (by simp; omega)) gL0 nofun
            have HG0 := Lib.hid (show y3.grownBy x0 (some (B + 1 + 1)) from grow_trans hg.out (grow_none gL0))
            have HRg := Lib.hid HP0.range
            clear hLb bL hV hg HP0 gL0
            clear hR lR sR hnx hVr bz hiL hthL hoL hx0 hz0 ix bL0
            have hd : decide ((r : Int) < 10) = true := by simp; omega
            go_upto_region 18 with (fail)
            refine wp_region_lit ?_
            refine Go.Great.wpList_readTo rfl _ rfl (.agg (R.map c8).toArray) (by have e := IX.out; simp [execOp, Act.eval, e]) ?_
            refine Go.Great.wpList_allocTo rfl _ rfl (.pointer (some ⟨Lb, 0, none⟩)) (.cells #[.int .u8 0, .int .u8 0, .int .u8 0, .int .u8 0, .int .u8 0, .int .u8 0, .int .u8 0, .int .u8 0, .int .u8 0, .int .u8 0, .int .u8 0, .int .u8 0, .int .u8 0, .int .u8 0, .int .u8 0, .int .u8 0] 224) ?_ ?_
            · rw [HLBE.out]
              kernel_rfl
            refine wpList_store_mid rfl 224 _ _ rfl Lb 0 (R.map c8).toArray (by simp [Act.eval, Act.put]) (by simp [Act.eval, Act.put]) HTL.out HIL.out HOL.out ?_
            refine wpList_nil ?_
            have hx3 : (wr.alloc (.cells #[.int .u8 0, .int .u8 0, .int .u8 0, .int .u8 0, .int .u8 0, .int .u8 0, .int .u8 0, .int .u8 0, .int .u8 0, .int .u8 0, .int .u8 0, .int .u8 0, .int .u8 0, .int .u8 0, .int .u8 0, .int .u8 0] 224)).setCells Lb 0 (R.map c8).toArray.toList = x0 := HX0.out.symm
            rw [hx3]
            clear hx3
            go_upto_region 19 with (fail)
            refine wp_region_lit ?_
            refine wpList_load_mid rfl 346 _ rfl P 0 rfl pc _ HRg.out Tryz.underlying346 rfl HIP.out ?_
            go_wp2_with fail
            go_loopw [73] (fun v73 wr => ∃ i : Nat, i ≤ 8 ∧ v73 = .int .i64 i ∧ Hid (HB wr (B + 1 + 1) 344 (blLine m R Vr i)) ∧ Hid (x0.grownBy wr (some (B + 1 + 1)))) (fun v73 _ => 8 - (intOf v73).toNat)
            case atStart => exact ⟨0, by omega, rfl, HV0, Lib.hid (grow_refl _ _)⟩
            case round =>
              clear HV0
              obtain ⟨i, hi, rfl, hV, hg⟩ := hrel
              by_cases hli : i < 8
              · have ixp := fun W => HPA.out W i hli
                have pok := places_ok i hli
                have hnx : blLine m R Vr (i + 1) = blMix ((blPlaces.getD i []).getD 0 0) ((blPlaces.getD i []).getD 1 0) ((blPlaces.getD i []).getD 2 0) ((blPlaces.getD i []).getD 3 0) (m.getD (R.getD (2 * i) 0) 0) (m.getD (R.getD (2 * i + 1) 0) 0) (blLine m R Vr i) := rfl
                generalize (blPlaces.getD i []).getD 0 0 = p0 at *
                generalize (blPlaces.getD i []).getD 1 0 = p1 at *
                generalize (blPlaces.getD i []).getD 2 0 = p2 at *
                generalize (blPlaces.getD i []).getD 3 0 = p3 at *
                have HPK := Lib.hid pok
                have HNI := Lib.hid hnx
                have hdi : decide ((i : Int) < 8) = true := by simp; omega
                clear pok hnx
                go_upto_region 22 with (fail)
                clear ixp
                obtain ⟨T4, hT4⟩ : ∃ T4, T4 = wr.heap.size := ⟨_, rfl⟩
                obtain ⟨y4, hy4⟩ : ∃ y4, y4 = wr.alloc (.cells #[.int .i64 (p0 : Int), .int .i64 (p1 : Int), .int .i64 (p2 : Int), .int .i64 (p3 : Int)] 345) := ⟨_, rfl⟩
                have bT : Blk y4 T4 345 [.int .i64 (p0 : Int), .int .i64 (p1 : Int), .int .i64 (p2 : Int), .int .i64 (p3 : Int)] := by rw [hy4, hT4]; exact obj_new _ _
                have t0 := Blk.cell bT 0
                have t1 := Blk.cell bT 1
                have t2 := Blk.cell bT 2
                have t3 := Blk.cell bT 3
                have hg4 : x0.grownBy y4 (some (B + 1 + 1)) := by rw [hy4]; exact grow_alloc hg.out _
                have hV4 := Lib.hid (show HB y4 (B + 1 + 1) 344 (blLine m R Vr i) by rw [hy4]; exact obj_alloc hV.out)
                rw [← hT4, ← hy4]
                clear hT4 hy4 bT hV hg
                have hV := hV4
                have hg := Lib.hid hg4
                clear hV4 hg4
                have hnx := HNI.out
                have pok := HPK.out
                have r1 := HSR.out (2 * i) (by omega)
                have r2 := HSR.out (2 * i + 1) (by omega)
                have bL := Blk.kept HBL.out hg.out (by simp; omega)
                have cL1 : y4.cell? ⟨Lb, 2 * i, none⟩ = some (.int .u8 ((R.getD (2 * i) 0 : Nat) : Int)) := by rw [Blk.cell bL, List.getElem?_map, getD_some R (2 * i) (by rw [HLR.out]; omega)]; rfl
                have cL2 : y4.cell? ⟨Lb, 2 * i + 1, none⟩ = some (.int .u8 ((R.getD (2 * i + 1) 0 : Nat) : Int)) := by rw [Blk.cell bL, List.getElem?_map, getD_some R (2 * i + 1) (by rw [HLR.out]; omega)]; rfl
                have bM := Blk.kept HM0.out hg.out (by simp; omega)
                obtain ⟨l1, hl1⟩ : ∃ l1, l1 = R.getD (2 * i) 0 := ⟨_, rfl⟩
                obtain ⟨l2, hl2⟩ : ∃ l2, l2 = R.getD (2 * i + 1) 0 := ⟨_, rfl⟩
                rw [← hl1] at r1 cL1 hnx
                rw [← hl2] at r2 cL2 hnx
                have cM1 : y4.cell? ⟨M, l1, none⟩ = some (.int .u32 ((m.getD l1 0 : Nat) : Int)) := hb_at bM (getD_some m l1 (by rw [HLM.out]; omega))
                have cM2 : y4.cell? ⟨M, l2, none⟩ = some (.int .u32 ((m.getD l2 0 : Nat) : Int)) := hb_at bM (getD_some m l2 (by rw [HLM.out]; omega))
                have s1 := getD_lt smW.out l1
                have s2 := getD_lt smW.out l2
                generalize m.getD l1 0 = mx at *
                generalize m.getD l2 0 = my at *
                have okL := blLine_ok okV.out m R i
                obtain ⟨Lv, hLv⟩ : ∃ Lv, Lv = blLine m R Vr i := ⟨_, rfl⟩
                rw [← hLv] at hV okL hnx
                obtain ⟨Ln, hLn⟩ : ∃ Ln, Ln = blLine m R Vr (i + 1) := ⟨_, rfl⟩
                rw [← hLn] at hnx
                have HLN := Lib.hid hLn
                have A1 : ∀ W : World, HB W (B + 1 + 1) 344 Lv → Calls Tryz.prog 263 #[.pointer (some ⟨B + 1 + 1, 0, none⟩), .agg #[.int .i64 (p0 : Int), .int .i64 (p1 : Int), .int .i64 (p2 : Int), .int .i64 (p3 : Int)], .int .u32 (mx : Int), .int .u32 (my : Int)] W (MixIs (B + 1 + 1) Ln W) := fun W hW => by
                  rw [hnx]
                  exact code_mix W (B + 1 + 1) Lv p0 p1 p2 p3 mx my hW okL.1 okL.2 pok.2 pok.1.1 pok.1.2.1 pok.1.2.2.1 pok.1.2.2.2 s1 s2
                obtain ⟨a1, ea1, wa1⟩ : ∃ a : Nat, 2 * (i : Int) = (a : Int) ∧ 2 * i = a := ⟨2 * i, by omega, rfl⟩
                obtain ⟨a2, ea2, wa2⟩ : ∃ a : Nat, (a1 : Int) + 1 = (a : Int) ∧ 2 * i + 1 = a := ⟨2 * i + 1, by omega, rfl⟩
                rw [wa1] at cL1
                rw [wa2] at cL2
                have la1 : (a1 : Int) < 16 := by omega
                have la2 : (a2 : Int) < 16 := by omega
                have wr1 : IntKind.i64.wrap (a1 : Int) = (a1 : Int) := IntWalk.i64_in _ (by omega)
                have wr2 : IntKind.i64.wrap (a2 : Int) = (a2 : Int) := IntWalk.i64_in _ (by omega)
                have lr1 : (l1 : Int) < 16 := by omega
                have lr2 : (l2 : Int) < 16 := by omega
                have HA1 := Lib.hid A1
                have HVI := hV
                clear hnx pok r1 r2 bL bM hl1 hl2 okL hLv hLn wa1 wa2 A1 hV
                go_still_tail 14, (by kernel_rfl)
                change wpList _ _ _ _ _ y4.drew
                go_wp2_with fail
                (with_reducible refine (HA1.out _ (hb_drew HVI.out)).mono ?_)
                rintro e x5 ⟨rfl, hV5, hg5⟩
                have H5 := Lib.hid hV5
                have G5 := Lib.hid (grow_trans (grow_drew hg.out) hg5)
                clear t0 t1 t2 t3 hV5 hg5 cL1 cL2 cM1 cM2 hg HVI
                go_wp2_with fail
                go_roundw
                case rel => exact ⟨i + 1, by omega, by go_num, by have := HLN.out; rw [← this]; exact H5, G5⟩
                case measure => simp [intOf]; omega
              · obtain rfl : i = 8 := by omega
                go_wp2_with fail
                go_roundw
                case rel => exact ⟨r + 1, by omega, by go_num, by have := HNX.out; rw [this]; exact hV, Lib.hid (grow_trans HG0.out hg.out)⟩
                case measure => simp [intOf]; omega
          · obtain rfl : r = 10 := by omega
            clear hlt
            obtain ⟨V, hVe⟩ : ∃ V, V = blRounds m V0 10 := ⟨_, rfl⟩
            have okV := Lib.hid (blRounds_ok okS.out m 10)
            rw [← hVe] at hV okV
            have hfin := (HBB.out V m HMW.out hVe).trans (xorK_all h V HL.out).symm
            have HFIN := Lib.hid hfin
            have bH := Blk.kept HBH.out hg.out (by simp; omega)
            have bR := Blk.kept HBR.out hg.out (by simp)
            have HBH := Lib.hid (show HB wr B 289 (xorK h V 0) from bH)
            have HBR := Lib.hid bR
            have HBV := hV
            have HGX := Lib.hid (grow_trans_new HGW.out hg.out (by have := HB0.out; omega))
            clear hVe hfin bH bR hV hg
            go_wp2_with fail
            go_loopw [94] (fun v94 wr => ∃ i : Nat, i ≤ 8 ∧ v94 = .int .i64 i ∧ Hid (HB wr B 289 (xorK h V i)) ∧ Hid (HB wr (B + 1 + 1) 344 V) ∧ Hid (HB wr (B + 1) 289 [0, 0, 0, 0, 0, 0, 0, 0]) ∧ Hid (w.grownBy wr none)) (fun v94 _ => 8 - (intOf v94).toNat)
            case atStart => exact ⟨0, by omega, rfl, HBH, HBV, HBR, HGX⟩
            case round =>
              clear HBH HBV HBR HGX
              obtain ⟨i, hi, rfl, hH, hV, hR, hg⟩ := hrel
              by_cases hli : i < 8
              · have cv : wr.cell? ⟨B + 1 + 1, i, none⟩ = some (.int .u32 ((V.getD i 0 : Nat) : Int)) := hb_at hV.out (getD_some V i (by rw [okV.out.1]; omega))
                have cv8 : wr.cell? ⟨B + 1 + 1, i + 8, none⟩ = some (.int .u32 ((V.getD (i + 8) 0 : Nat) : Int)) := hb_at hV.out (getD_some V (i + 8) (by rw [okV.out.1]; omega))
                have cs : wr.cell? ⟨B, i, none⟩ = some (.int .u32 ((h.getD i 0 : Nat) : Int)) := hb_at hH.out (xorK_at h V HL.out i hli)
                have hf : wr.frozen? ⟨B, i, none⟩ = false := Blk.frozen hH.out i
                obtain ⟨n1, e1, l1⟩ := nameXor (V.getD i 0) (V.getD (i + 8) 0) (getD_lt okV.out.2 _) (getD_lt okV.out.2 _)
                obtain ⟨n2, e2, l2⟩ := nameXor (h.getD i 0) n1 (getD_lt HS.out _) l1
                have hst := hH.out.set i n2
                rw [← e2.1, ← e1.1, xorK_set h V HL.out i hli, e1.1, e2.1] at hst
                have gs1 := grow_setCell (grow_refl wr (some B)) i (.int .u32 (n2 : Int))
                have hV2 := Lib.hid (show HB (wr.setCell ⟨B, i, none⟩ (.int .u32 (n2 : Int))) (B + 1 + 1) 344 V from Blk.kept hV.out gs1 (by simp; omega))
                have hR2 := Lib.hid (show HB (wr.setCell ⟨B, i, none⟩ (.int .u32 (n2 : Int))) (B + 1) 289 [0, 0, 0, 0, 0, 0, 0, 0] from Blk.kept hR.out gs1 (by simp))
                have HGS := Lib.hid (grow_setCell_new hg.out ⟨B, i, none⟩ (by have := HB0.out; simp; omega) (.int .u32 (n2 : Int)))
                have HST := Lib.hid hst
                obtain ⟨-, e1⟩ := e1
                obtain ⟨-, e2⟩ := e2
                obtain ⟨i8, ei8, wi8⟩ : ∃ a : Nat, (i : Int) + 8 = (a : Int) ∧ i + 8 = a := ⟨i + 8, by omega, rfl⟩
                rw [wi8] at cv8 e1
                have li8 : (i8 : Int) < 16 := by omega
                have wi : IntKind.i64.wrap (i8 : Int) = (i8 : Int) := IntWalk.i64_in _ (by omega)
                have hdi : decide ((i : Int) < 8) = true := by simp; omega
                have ii : (i : Int) < 16 := by omega
                have ij : (i : Int) < 8 := by omega
                generalize V.getD i 0 = xa at *
                generalize V.getD i8 0 = xb at *
                generalize h.getD i 0 = xc at *
                clear hst gs1 hH hV hR hg wi8
                go_wp2_with fail
                go_still_tail 13, (by kernel_rfl)
                change wpList _ _ _ _ _ wr.drew
                go_wp2_with fail
                go_roundw
                case rel => first | exact ⟨i + 1, by omega, by go_num, HST, hV2, hR2, Lib.hid (grow_drew HGS.out)⟩ | exact ⟨_, _, _, _, _, _, _, _, _, _, _, _, _, _, _, _, _, _, ⟨i + 1, by omega, by go_num, HST, hV2, hR2, Lib.hid (grow_drew HGS.out)⟩, rfl⟩
                case measure => simp [intOf]; omega
              · obtain rfl : i = 8 := by omega
                clear hli
                have lS := xorK_length h V HL.out 8 hi
                have bS := hH.out
                have bR := hR.out
                generalize xorK h V 8 = S' at *
                obtain ⟨a0, a1, a2, a3, a4, a5, a6, a7, es⟩ := eight lS
                rw [es] at bS
                obtain ⟨c0, c1, c2, c3, c4, c5, c6, c7⟩ := bS.eight
                obtain ⟨z0, z1, z2, z3, z4, z5, z6, z7⟩ := HB.eight bR
                have f0 := Blk.frozen bR 0
                have f1 := Blk.frozen bR 1
                have f2 := Blk.frozen bR 2
                have f3 := Blk.frozen bR 3
                have f4 := Blk.frozen bR 4
                have f5 := Blk.frozen bR 5
                have f6 := Blk.frozen bR 6
                have f7 := Blk.frozen bR 7
                have HES := Lib.hid es
                have hz0 := Lib.hid (show w.heap.size ≤ B + 1 by have := HB0.out; omega)
                clear es lS bS bR hH hR hV
                go_wp2_with fail
                refine bodyPost_ret (v := .agg #[.int .u32 (a0 : Int), .int .u32 (a1 : Int), .int .u32 (a2 : Int), .int .u32 (a3 : Int), .int .u32 (a4 : Int), .int .u32 (a5 : Int), .int .u32 (a6 : Int), .int .u32 (a7 : Int)]) (by simp [results, Tryz.results210, go_sem, z0, z1, z2, z3, z4, z5, z6, z7]) rfl ?_
                refine ⟨by have e := HFIN.out; rw [e, HES.out]; rfl, ?_⟩
                have hz := hz0.out
                exact grow_setCell_new (grow_setCell_new (grow_setCell_new (grow_setCell_new (grow_setCell_new (grow_setCell_new (grow_setCell_new (grow_setCell_new hg.out _ hz _) _ hz _) _ hz _) _ hz _) _ hz _) _ hz _) _ hz _) _ hz _

end Go.Proofs.YtmomfbkpniblgaaGreatDoor
