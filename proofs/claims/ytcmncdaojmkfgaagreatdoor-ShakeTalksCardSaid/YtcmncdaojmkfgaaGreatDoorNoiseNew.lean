/- Noise: New; what is refused without a key. (Written by wip/gen/nstate2.py.) -/
import Derived.Test.YtcmncdaojmkfgaaGreatDoorNoiseState
namespace Go.Proofs.YtcmncdaojmkfgaaGreatDoor
open Go.RowKit
set_option linter.unusedVariables false

def labL (suite : Nat) : List UInt8 := [115, 111, 117, 116, 101, 114, 114, 97, 105, 110, 32] ++ [UInt8.ofNat (48 + suite)]
def begH (suite : Nat) : List UInt8 := hashM suite (labL suite)
theorem begH_length (suite : Nat) (h12 : suite = 1 ∨ suite = 2) : (begH suite).length = 32 := hashM_length _ _
def Newed (w : World) (suite : Nat) (pro : List UInt8) (e : Ending) (w' : World) : Prop :=
  ∃ b, e = .returned (.tuple #[.pointer (some ⟨b, 0, none⟩), .int .i64 0]) ∧ NSt w' b suite (hashM suite (begH suite ++ pro)) (begH suite) [] 0 ∧ w.grownBy w' none ∧ w.heap.size ≤ b

set_option maxRecDepth 100000 in
set_option maxHeartbeats 2000000 in
theorem code_nnew1 (w : World) (pro : List UInt8) (hp : pro.length ≤ 9223372036854774000) : Calls Tryz.prog 42 #[.int .i64 1, S pro] w (Newed w 1 pro) := by
  have A0 := code_of1
  have cv : (convert 90 9 (.slice (some ⟨w.heap.size, 0, none⟩) 1 1)).run Tryz.prog (w.alloc (.cells #[.int .u8 49] 5)) = .ok (.string ⟨#[49]⟩) (w.alloc (.cells #[.int .u8 49] 5)) := conv_byte w 49 49 rfl
  have A1 : ∀ W : World, Calls Tryz.prog 62 #[.int .i64 1, S (labL 1)] W (Grown (.tuple #[S (begH 1), .int .i64 0]) W) := fun W => code_ksum W 1 (by decide) (labL 1) (by decide)
  have lb := begH_length 1 (by decide)
  have A2 : ∀ (W : World) (b : Nat), NSt W b 1 (begH 1) (begH 1) [] 0 → Calls Tryz.prog 43 #[.pointer (some ⟨b, 0, none⟩), S pro] W (Mixed W b 1 (hashM 1 (begH 1 ++ pro)) (begH 1) [] 0) := fun W b h => code_mixhash1 W b (begH 1) (begH 1) [] pro 0 h (by omega) hp
  unfold Newed
  generalize hashM 1 (begH 1 ++ pro) = V at *
  generalize begH 1 = H at *
  have el : labL 1 = [115, 111, 117, 116, 101, 114, 114, 97, 105, 110, 32, 49] := rfl
  rw [el] at A1
  have r3 : ByteArray.mk #[115, 111, 117, 116, 101, 114, 114, 97, 105, 110, 32] ++ ByteArray.mk #[49] = ⟨#[115, 111, 117, 116, 101, 114, 114, 97, 105, 110, 32, 49]⟩ := rfl
  have A3 := fun W : World => A2 (W.alloc (.cells #[.iface 125 (.agg #[]), S H, S H, S [], .int .u64 0] 78)) W.heap.size (obj_new W _)
  rw [suV_1] at A0
  clear A2 hp el lb
  unfold S at *
  go_enter Tryz.func42, Tryz.ntmps42
  go_wp2_with fail
  (with_reducible refine (A0 _).mono ?_)
  rintro e x ⟨rfl, rfl⟩
  go_wp2_with fail
  (with_reducible refine (A1 _).mono ?_)
  rintro e x1 ⟨rfl, hg1⟩
  replace hg1 := grow_trans (World.grownBy_alloc w (.cells #[.int .u8 49] 5) none) hg1
  have HG := Lib.hid hg1
  clear hg1 cv
  go_wp2_with fail
  (with_reducible refine (A3 _).mono ?_)
  rintro e x2 ⟨rfl, hs, hg2⟩
  have HS := Lib.hid hs
  have HG2 := Lib.hid (grow_trans_new (grow_alloc HG.out _) hg2 HG.out.size)
  clear hs hg2 A3
  go_wp2_with fail
  go_ret2
  exact ⟨x1.heap.size, rfl, HS.out, HG2.out, HG.out.size⟩

set_option maxRecDepth 100000 in
set_option maxHeartbeats 2000000 in
theorem code_nnew2 (w : World) (pro : List UInt8) (hp : pro.length ≤ 9223372036854774000) : Calls Tryz.prog 42 #[.int .i64 2, S pro] w (Newed w 2 pro) := by
  have A0 := code_of2
  have cv : (convert 90 9 (.slice (some ⟨w.heap.size, 0, none⟩) 1 1)).run Tryz.prog (w.alloc (.cells #[.int .u8 50] 5)) = .ok (.string ⟨#[50]⟩) (w.alloc (.cells #[.int .u8 50] 5)) := conv_byte w 50 50 rfl
  have A1 : ∀ W : World, Calls Tryz.prog 62 #[.int .i64 2, S (labL 2)] W (Grown (.tuple #[S (begH 2), .int .i64 0]) W) := fun W => code_ksum W 2 (by decide) (labL 2) (by decide)
  have lb := begH_length 2 (by decide)
  have A2 : ∀ (W : World) (b : Nat), NSt W b 2 (begH 2) (begH 2) [] 0 → Calls Tryz.prog 43 #[.pointer (some ⟨b, 0, none⟩), S pro] W (Mixed W b 2 (hashM 2 (begH 2 ++ pro)) (begH 2) [] 0) := fun W b h => code_mixhash2 W b (begH 2) (begH 2) [] pro 0 h (by omega) hp
  unfold Newed
  generalize hashM 2 (begH 2 ++ pro) = V at *
  generalize begH 2 = H at *
  have el : labL 2 = [115, 111, 117, 116, 101, 114, 114, 97, 105, 110, 32, 50] := rfl
  rw [el] at A1
  have r3 : ByteArray.mk #[115, 111, 117, 116, 101, 114, 114, 97, 105, 110, 32] ++ ByteArray.mk #[50] = ⟨#[115, 111, 117, 116, 101, 114, 114, 97, 105, 110, 32, 50]⟩ := rfl
  have A3 := fun W : World => A2 (W.alloc (.cells #[.iface 126 (.agg #[]), S H, S H, S [], .int .u64 0] 78)) W.heap.size (obj_new W _)
  rw [suV_2] at A0
  clear A2 hp el lb
  unfold S at *
  go_enter Tryz.func42, Tryz.ntmps42
  go_wp2_with fail
  (with_reducible refine (A0 _).mono ?_)
  rintro e x ⟨rfl, rfl⟩
  go_wp2_with fail
  (with_reducible refine (A1 _).mono ?_)
  rintro e x1 ⟨rfl, hg1⟩
  replace hg1 := grow_trans (World.grownBy_alloc w (.cells #[.int .u8 50] 5) none) hg1
  have HG := Lib.hid hg1
  clear hg1 cv
  go_wp2_with fail
  (with_reducible refine (A3 _).mono ?_)
  rintro e x2 ⟨rfl, hs, hg2⟩
  have HS := Lib.hid hs
  have HG2 := Lib.hid (grow_trans_new (grow_alloc HG.out _) hg2 HG.out.size)
  clear hs hg2 A3
  go_wp2_with fail
  go_ret2
  exact ⟨x1.heap.size, rfl, HS.out, HG2.out, HG.out.size⟩

theorem code_nnew (w : World) (suite : Nat) (h12 : suite = 1 ∨ suite = 2) (pro : List UInt8) (hp : pro.length ≤ 9223372036854774000) : Calls Tryz.prog 42 #[.int .i64 (suite : Int), S pro] w (Newed w suite pro) := by
  rcases h12 with rfl | rfl
  · exact code_nnew1 w pro hp
  · exact code_nnew2 w pro hp

theorem nil_MBSeal (k : Nat) (W : World) : (nilAhead (k + 1) 125 (.agg #[]) "souterrain/noise.seal").run Tryz.prog W = .ok (some false) W := by kernel_rfl
set_option maxRecDepth 100000 in
set_option maxHeartbeats 2000000 in
theorem code_nSeal_nokey1 (w : World) (b : Nat) (hash chain text : List UInt8) (n : Nat) (h : NSt w b 1 hash chain [] n) :
    Calls Tryz.prog 59 #[.pointer (some ⟨b, 0, none⟩), S text] w fun e w' => e = .returned (.tuple #[S [], .int .i64 10]) ∧ w = w' := by
  obtain ⟨c0, c1, c2, c3, c4⟩ := h.cells
  rw [suV_1] at c0
  have NA := nil_MBSeal
  have AT : Calls Tryz.prog 64 #[.pointer (some ⟨b, 0, none⟩), S text, .func (.method "souterrain/noise.seal") #[.iface 125 (.agg #[])] #[]] w (fun e w' => e = .returned (.tuple #[S [], .int .i64 10]) ∧ w = w') := by
    unfold S at *
    go_enter Tryz.func64, Tryz.ntmps64
    go_wp2_with fail
    go_ret2
    exact ⟨rfl, rfl⟩
  unfold S at *
  go_enter Tryz.func59, Tryz.ntmps59
  go_wp2_with fail
  (with_reducible refine AT.mono ?_)
  rintro e x ⟨rfl, rfl⟩
  go_wp2_with fail
  go_ret2
  exact ⟨rfl, rfl⟩

theorem nil_MSSeal (k : Nat) (W : World) : (nilAhead (k + 1) 126 (.agg #[]) "souterrain/noise.seal").run Tryz.prog W = .ok (some false) W := by kernel_rfl
set_option maxRecDepth 100000 in
set_option maxHeartbeats 2000000 in
theorem code_nSeal_nokey2 (w : World) (b : Nat) (hash chain text : List UInt8) (n : Nat) (h : NSt w b 2 hash chain [] n) :
    Calls Tryz.prog 59 #[.pointer (some ⟨b, 0, none⟩), S text] w fun e w' => e = .returned (.tuple #[S [], .int .i64 10]) ∧ w = w' := by
  obtain ⟨c0, c1, c2, c3, c4⟩ := h.cells
  rw [suV_2] at c0
  have NA := nil_MSSeal
  have AT : Calls Tryz.prog 64 #[.pointer (some ⟨b, 0, none⟩), S text, .func (.method "souterrain/noise.seal") #[.iface 126 (.agg #[])] #[]] w (fun e w' => e = .returned (.tuple #[S [], .int .i64 10]) ∧ w = w') := by
    unfold S at *
    go_enter Tryz.func64, Tryz.ntmps64
    go_wp2_with fail
    go_ret2
    exact ⟨rfl, rfl⟩
  unfold S at *
  go_enter Tryz.func59, Tryz.ntmps59
  go_wp2_with fail
  (with_reducible refine AT.mono ?_)
  rintro e x ⟨rfl, rfl⟩
  go_wp2_with fail
  go_ret2
  exact ⟨rfl, rfl⟩

theorem nil_MBOpen (k : Nat) (W : World) : (nilAhead (k + 1) 125 (.agg #[]) "souterrain/noise.open").run Tryz.prog W = .ok (some false) W := by kernel_rfl
set_option maxRecDepth 100000 in
set_option maxHeartbeats 2000000 in
theorem code_nOpen_nokey1 (w : World) (b : Nat) (hash chain text : List UInt8) (n : Nat) (h : NSt w b 1 hash chain [] n) :
    Calls Tryz.prog 46 #[.pointer (some ⟨b, 0, none⟩), S text] w fun e w' => e = .returned (.tuple #[S [], .int .i64 10]) ∧ w = w' := by
  obtain ⟨c0, c1, c2, c3, c4⟩ := h.cells
  rw [suV_1] at c0
  have NA := nil_MBOpen
  have AT : Calls Tryz.prog 64 #[.pointer (some ⟨b, 0, none⟩), S text, .func (.method "souterrain/noise.open") #[.iface 125 (.agg #[])] #[]] w (fun e w' => e = .returned (.tuple #[S [], .int .i64 10]) ∧ w = w') := by
    unfold S at *
    go_enter Tryz.func64, Tryz.ntmps64
    go_wp2_with fail
    go_ret2
    exact ⟨rfl, rfl⟩
  unfold S at *
  go_enter Tryz.func46, Tryz.ntmps46
  go_wp2_with fail
  (with_reducible refine AT.mono ?_)
  rintro e x ⟨rfl, rfl⟩
  go_wp2_with fail
  go_ret2
  exact ⟨rfl, rfl⟩

theorem nil_MSOpen (k : Nat) (W : World) : (nilAhead (k + 1) 126 (.agg #[]) "souterrain/noise.open").run Tryz.prog W = .ok (some false) W := by kernel_rfl
set_option maxRecDepth 100000 in
set_option maxHeartbeats 2000000 in
theorem code_nOpen_nokey2 (w : World) (b : Nat) (hash chain text : List UInt8) (n : Nat) (h : NSt w b 2 hash chain [] n) :
    Calls Tryz.prog 46 #[.pointer (some ⟨b, 0, none⟩), S text] w fun e w' => e = .returned (.tuple #[S [], .int .i64 10]) ∧ w = w' := by
  obtain ⟨c0, c1, c2, c3, c4⟩ := h.cells
  rw [suV_2] at c0
  have NA := nil_MSOpen
  have AT : Calls Tryz.prog 64 #[.pointer (some ⟨b, 0, none⟩), S text, .func (.method "souterrain/noise.open") #[.iface 126 (.agg #[])] #[]] w (fun e w' => e = .returned (.tuple #[S [], .int .i64 10]) ∧ w = w') := by
    unfold S at *
    go_enter Tryz.func64, Tryz.ntmps64
    go_wp2_with fail
    go_ret2
    exact ⟨rfl, rfl⟩
  unfold S at *
  go_enter Tryz.func46, Tryz.ntmps46
  go_wp2_with fail
  (with_reducible refine AT.mono ?_)
  rintro e x ⟨rfl, rfl⟩
  go_wp2_with fail
  go_ret2
  exact ⟨rfl, rfl⟩

end Go.Proofs.YtcmncdaojmkfgaaGreatDoor
