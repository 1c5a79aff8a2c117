/- SHA-256: the constants. -/
import Derived.Test.YtbkgfpebffmffaaShaMix
import Derived.Test.YtbkgfpebffmffaaRow
import Derived.Test.YtbkgfpebffmffaaZeros
import Derived.Test.YtbkgfpebffmffaaIndexRow
import Derived.StillTailTactics
import Derived.Great.Walk
namespace Go.Proofs.Ytbkgfpebffmffaa
open Go.RowKit
set_option linter.unusedVariables false

def c32 (n : Nat) : Value := .int .u32 (n : Int)
def A32 (l : List Nat) : Value := .agg (l.map c32).toArray
def HB (w : World) (B : Nat) (t : TypeId) (l : List Nat) : Prop := Blk w B t (l.map c32)
theorem HB.cell {w : World} {B : Nat} {t : TypeId} {l : List Nat} (h : HB w B t l) (i : Nat) (hi : i < l.length) : w.cell? ⟨B, i, none⟩ = some (.int .u32 (l[i] : Nat)) := by
  rw [Blk.cell h, List.getElem?_map, List.getElem?_eq_getElem hi]; rfl
theorem HB.set {w : World} {B : Nat} {t : TypeId} {l : List Nat} (h : HB w B t l) (i n : Nat) : HB (w.setCell ⟨B, i, none⟩ (.int .u32 (n : Int))) B t (l.set i n) := by
  have := Blk.set h i (.int .u32 (n : Int))
  unfold HB
  rw [List.map_set]
  exact this
def Small32 (l : List Nat) : Prop := ∀ x ∈ l, x < 4294967296

theorem info_u32 : (Try.prog.info? 23).map (·.size) = some 1 := by kernel_rfl
def kCells : List Value := [.int .u32 1116352408, .int .u32 1899447441, .int .u32 3049323471, .int .u32 3921009573, .int .u32 961987163, .int .u32 1508970993, .int .u32 2453635748, .int .u32 2870763221, .int .u32 3624381080, .int .u32 310598401, .int .u32 607225278, .int .u32 1426881987, .int .u32 1925078388, .int .u32 2162078206, .int .u32 2614888103, .int .u32 3248222580, .int .u32 3835390401, .int .u32 4022224774, .int .u32 264347078, .int .u32 604807628, .int .u32 770255983, .int .u32 1249150122, .int .u32 1555081692, .int .u32 1996064986, .int .u32 2554220882, .int .u32 2821834349, .int .u32 2952996808, .int .u32 3210313671, .int .u32 3336571891, .int .u32 3584528711, .int .u32 113926993, .int .u32 338241895, .int .u32 666307205, .int .u32 773529912, .int .u32 1294757372, .int .u32 1396182291, .int .u32 1695183700, .int .u32 1986661051, .int .u32 2177026350, .int .u32 2456956037, .int .u32 2730485921, .int .u32 2820302411, .int .u32 3259730800, .int .u32 3345764771, .int .u32 3516065817, .int .u32 3600352804, .int .u32 4094571909, .int .u32 275423344, .int .u32 430227734, .int .u32 506948616, .int .u32 659060556, .int .u32 883997877, .int .u32 958139571, .int .u32 1322822218, .int .u32 1537002063, .int .u32 1747873779, .int .u32 1955562222, .int .u32 2024104815, .int .u32 2227730452, .int .u32 2361852424, .int .u32 2428436474, .int .u32 2756734187, .int .u32 3204031479, .int .u32 3329325298]
theorem kCells_eq : shaK.map c32 = kCells := by simp only [shaK, c32, kCells, List.map_cons, List.map_nil, Int.cast_ofNat_Int]
theorem kCells_one : kCells.toArray.all (·.oneCell') = true := by kernel_rfl
theorem infoK : (Try.prog.info? 116).map (·.size) = some kCells.length := by kernel_rfl
theorem infoK2 : (Try.prog.info? 116).map (·.size) = some kCells.toArray.size := by kernel_rfl
def zCells : List Value := List.replicate 64 (.int .u32 0)
set_option maxRecDepth 20000 in
set_option maxHeartbeats 2000000 in
theorem code_constants (w : World) : Calls Try.prog 55 #[] w (Grown (A32 shaK) w) := by
  obtain ⟨x, hx⟩ : ∃ x, x = w.alloc (.cells #[.int .u32 0, .int .u32 0, .int .u32 0, .int .u32 0, .int .u32 0, .int .u32 0, .int .u32 0, .int .u32 0, .int .u32 0, .int .u32 0, .int .u32 0, .int .u32 0, .int .u32 0, .int .u32 0, .int .u32 0, .int .u32 0, .int .u32 0, .int .u32 0, .int .u32 0, .int .u32 0, .int .u32 0, .int .u32 0, .int .u32 0, .int .u32 0, .int .u32 0, .int .u32 0, .int .u32 0, .int .u32 0, .int .u32 0, .int .u32 0, .int .u32 0, .int .u32 0, .int .u32 0, .int .u32 0, .int .u32 0, .int .u32 0, .int .u32 0, .int .u32 0, .int .u32 0, .int .u32 0, .int .u32 0, .int .u32 0, .int .u32 0, .int .u32 0, .int .u32 0, .int .u32 0, .int .u32 0, .int .u32 0, .int .u32 0, .int .u32 0, .int .u32 0, .int .u32 0, .int .u32 0, .int .u32 0, .int .u32 0, .int .u32 0, .int .u32 0, .int .u32 0, .int .u32 0, .int .u32 0, .int .u32 0, .int .u32 0, .int .u32 0, .int .u32 0] 116) := ⟨_, rfl⟩
  have hb : Blk x w.heap.size 116 zCells := by rw [hx]; exact obj_new _ _
  have hth : x.there w.heap.size 0 kCells.toArray.size := hb.there _ (by kernel_rfl)
  have hW := hb.store kCells (by kernel_rfl)
  have he : A32 shaK = .agg kCells.toArray := by unfold A32; rw [kCells_eq]
  have hgW : w.grownBy (x.setCells w.heap.size 0 kCells.toArray.toList) none := grow_setCells_new (by rw [hx]; exact grow_alloc (grow_refl w none) _) _ (Nat.le_refl _) _ _
  rw [he]
  have hone := kCells_one
  have hi1 := infoK
  have hi2 := infoK2
  obtain ⟨L, hL⟩ : ∃ L, L = kCells := ⟨_, rfl⟩
  rw [← hL] at hth hW hgW hone hi1 hi2 ⊢
  have HL := Lib.hid hL
  have HW := Lib.hid hW
  have HG := Lib.hid hgW
  have HX := Lib.hid hx
  have HT := Lib.hid hth
  have HO := Lib.hid hone
  have HI1 := Lib.hid hi1
  have HI2 := Lib.hid hi2
  clear hb he hW hgW hx hth hL hone hi1 hi2
  go_enter Try.func55, Try.ntmps55
  go_upto_region 1 with (fail)
  rw [← HX.out]
  refine wp_region_lit ?_
  refine Go.Great.wpList_readTo rfl _ rfl (.agg L.toArray) ?_ ?_
  · rw [HL.out]
    kernel_rfl
  refine wpList_store_mid rfl 116 _ _ rfl w.heap.size 0 L.toArray rfl rfl HT.out HI2.out HO.out ?_
  refine wpList_nil ?_
  go_wp2_with fail
  refine bodyPost_ret (v := .agg L.toArray) (results_row Try.results55 _ _ w.heap.size rfl L _ HW.out Try.underlying116 rfl HI1.out) rfl ?_
  exact ⟨rfl, HG.out⟩

end Go.Proofs.Ytbkgfpebffmffaa
