/- BLAKE2s: plain. -/
import Derived.Test.YtbkgfpebffmffaaShaPlain
import Derived.Test.YtbkgfpebffmffaaLittle
namespace Go.Proofs.Ytbkgfpebffmffaa
set_option linter.unusedVariables false

def blLines : List (List Nat) := [
  [0, 1, 2, 3, 4, 5, 6, 7, 8, 9, 10, 11, 12, 13, 14, 15],
  [14, 10, 4, 8, 9, 15, 13, 6, 1, 12, 0, 2, 11, 7, 5, 3],
  [11, 8, 12, 0, 5, 2, 15, 13, 10, 14, 3, 6, 7, 1, 9, 4],
  [7, 9, 3, 1, 13, 12, 11, 14, 2, 6, 5, 10, 4, 0, 15, 8],
  [9, 0, 5, 7, 2, 4, 10, 15, 14, 1, 11, 12, 6, 8, 3, 13],
  [2, 12, 6, 10, 0, 11, 8, 3, 4, 13, 7, 5, 15, 14, 1, 9],
  [12, 5, 1, 15, 14, 13, 4, 10, 0, 7, 6, 3, 9, 2, 8, 11],
  [13, 11, 7, 14, 12, 1, 3, 9, 5, 0, 15, 4, 8, 6, 2, 10],
  [6, 15, 14, 9, 11, 3, 0, 8, 12, 2, 13, 7, 1, 4, 10, 5],
  [10, 2, 8, 4, 7, 6, 1, 5, 15, 11, 9, 14, 3, 12, 13, 0]]
def blPlaces : List (List Nat) := [[0, 4, 8, 12], [1, 5, 9, 13], [2, 6, 10, 14], [3, 7, 11, 15], [0, 5, 10, 15], [1, 6, 11, 12], [2, 7, 8, 13], [3, 4, 9, 14]]

/-- The four numbers behind one mix. -/
def blMix4 (a b c d x y : Nat) : Nat × Nat × Nat × Nat :=
  let a := sadd a (sadd b x)
  let d := rotl32 (d ^^^ a) 16
  let c := sadd c d
  let b := rotl32 (b ^^^ c) 20
  let a := sadd a (sadd b y)
  let d := rotl32 (d ^^^ a) 24
  let c := sadd c d
  let b := rotl32 (b ^^^ c) 25
  (a, b, c, d)
def blMix (i j k l x y : Nat) (v : List Nat) : List Nat :=
  let r := blMix4 (v.getD i 0) (v.getD j 0) (v.getD k 0) (v.getD l 0) x y
  (((v.set i r.1).set j r.2.1).set k r.2.2.1).set l r.2.2.2
def blAt (p : List Nat) (x y : Nat) (v : List Nat) : List Nat := blMix (p.getD 0 0) (p.getD 1 0) (p.getD 2 0) (p.getD 3 0) x y v
def blLine (m l v : List Nat) : Nat → List Nat
  | 0 => v
  | i + 1 => blAt (blPlaces.getD i []) (m.getD (l.getD (2 * i) 0) 0) (m.getD (l.getD (2 * i + 1) 0) 0) (blLine m l v i)
def blRounds (m v : List Nat) : Nat → List Nat
  | 0 => v
  | r + 1 => blLine m (blLines.getD r []) (blRounds m v r) 8
def blWords (b : List UInt8) (n : Nat) : List Nat := (List.range n).map fun i => leN ((b.drop (4 * i)).take 4)
def blStart (h : List Nat) (many : Nat) (last : Bool) : List Nat :=
  let v := h ++ shaI
  let v := v.set 12 (v.getD 12 0 ^^^ many % 4294967296)
  let v := v.set 13 (v.getD 13 0 ^^^ many / 4294967296)
  if last then v.set 14 (4294967295 ^^^ v.getD 14 0) else v
def blBlock (h : List Nat) (b : List UInt8) (many : Nat) (last : Bool) : List Nat :=
  let v := blRounds (blWords b 16) (blStart h many last) 10
  (List.range 8).map fun i => h.getD i 0 ^^^ (v.getD i 0 ^^^ v.getD (i + 8) 0)

theorem blBlock_length (h : List Nat) (b : List UInt8) (many : Nat) (last : Bool) : (blBlock h b many last).length = 8 := by simp [blBlock]

def blFirst (klen many : Nat) : List Nat := shaI.set 0 (shaI.getD 0 0 ^^^ ((16842752 ^^^ klen * 256) ^^^ many))
/-- all blocks but the last -/
def blLoop : Nat → List Nat → List UInt8 → Nat → List Nat × List UInt8 × Nat
  | 0, h, s, at' => (h, s, at')
  | f + 1, h, s, at' => if 64 < s.length then blLoop f (blBlock h (s.take 64) (at' + 64) false) (s.drop 64) (at' + 64) else (h, s, at')
def leD (s : List Nat) : List UInt8 := s.flatMap fun n => leB n 4
def blText (key s : List UInt8) : List UInt8 := if key = [] then s else key ++ List.replicate (64 - key.length) 0 ++ s
def blL (key s : List UInt8) (many : Nat) : List UInt8 :=
  let r := blLoop (blText key s).length (blFirst key.length many) (blText key s) 0
  (leD (blBlock r.1 (r.2.1 ++ List.replicate (64 - r.2.1.length) 0) (r.2.2 + r.2.1.length) true)).take many

theorem leD_length (s : List Nat) : (leD s).length = 4 * s.length := by
  unfold leD
  induction s with
  | nil => rfl
  | cons a s ih => rw [List.flatMap_cons, List.length_append, ih, leB_length, List.length_cons]; omega
theorem blL_length (key s : List UInt8) (many : Nat) (h : many ≤ 32) : (blL key s many).length = many := by
  unfold blL
  simp only
  rw [List.length_take, leD_length, blBlock_length]
  omega

theorem bl_vec1 : blL [] [97, 98, 99] 32 = [0x50, 0x8c, 0x5e, 0x8c, 0x32, 0x7c, 0x14, 0xe2, 0xe1, 0xa7, 0x2b, 0xa3, 0x4e, 0xeb, 0x45, 0x2f, 0x37, 0x45, 0x8b, 0x20, 0x9e, 0xd6, 0x3a, 0x29, 0x4d, 0x99, 0x9b, 0x4c, 0x86, 0x67, 0x59, 0x82] := by decide +kernel
theorem bl_vec2 : blL [] [] 32 = [0x69, 0x21, 0x7a, 0x30, 0x79, 0x90, 0x80, 0x94, 0xe1, 0x11, 0x21, 0xd0, 0x42, 0x35, 0x4a, 0x7c, 0x1f, 0x55, 0xb6, 0x48, 0x2c, 0xa1, 0xa5, 0x1e, 0x1b, 0x25, 0x0d, 0xfd, 0x1e, 0xd0, 0xee, 0xf9] := by decide +kernel

end Go.Proofs.Ytbkgfpebffmffaa
