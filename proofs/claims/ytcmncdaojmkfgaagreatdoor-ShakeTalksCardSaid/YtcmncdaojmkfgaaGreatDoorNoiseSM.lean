/- Noise: a state's Seal and Open. (Written by wip/gen/nthrough.py.) -/
import Derived.Test.YtcmncdaojmkfgaaGreatDoorNoiseThrough
namespace Go.Proofs.YtcmncdaojmkfgaaGreatDoor
open Go.RowKit
set_option linter.unusedVariables false

set_option maxRecDepth 100000 in
set_option maxHeartbeats 2000000 in
theorem stSeal1_err (w : World) (b : Nat) (hash chain key text a : List UInt8) (n : Nat) (c : Int) (hc : (c == 0) = false) (h : NSt w b 1 hash chain key n) (hk : key.length = 32) (hn : n < 18446744073709551000)
    (C : ∀ W : World, Calls Tryz.prog 141 #[.agg #[], S key, S (nonL 1 n), S hash, S text] W (Grown (.tuple #[S a, .int .i64 c]) W)) :
    Calls Tryz.prog 59 #[.pointer (some ⟨b, 0, none⟩), S text] w (Grown (.tuple #[S a, .int .i64 c]) w) := by
  have AT := thrSeal1_err w b hash chain key text a n c hc h hk hn C
  obtain ⟨c0, c1, c2, c3, c4⟩ := h.cells
  rw [suV_1] at c0
  have NA := nil_MBSeal
  clear C c1 c2 c3 c4 h hk
  unfold S at *
  go_enter Tryz.func59, Tryz.ntmps59
  go_wp2_with fail
  (with_reducible refine AT.mono ?_)
  rintro e x ⟨rfl, hg⟩
  go_wp2_with fail
  go_ret2
  exact ⟨rfl, hg⟩

set_option maxRecDepth 100000 in
set_option maxHeartbeats 2000000 in
theorem stSeal1_ok (w : World) (b : Nat) (hash chain key text a : List UInt8) (n : Nat) (h : NSt w b 1 hash chain key n) (hk : key.length = 32) (hh : hash.length ≤ 32) (hn : n < 18446744073709551000) (ht : a.length ≤ 9223372036854774000)
    (C : ∀ W : World, Calls Tryz.prog 141 #[.agg #[], S key, S (nonL 1 n), S hash, S text] W (Grown (.tuple #[S a, .int .i64 0]) W)) :
    Calls Tryz.prog 59 #[.pointer (some ⟨b, 0, none⟩), S text] w (fun e w' => e = .returned (.tuple #[S a, .int .i64 0]) ∧ NSt w' b 1 (hashM 1 (hash ++ a)) chain key (n + 1) ∧ w.grownBy w' (some b)) := by
  have AT := thrSeal1_ok w b hash chain key text a n h hk hn C
  obtain ⟨c0, c1, c2, c3, c4⟩ := h.cells
  rw [suV_1] at c0
  have NA := nil_MBSeal
  have AM := fun (W : World) (hW : NSt W b 1 hash chain key (n + 1)) => code_mixhash1 W b hash chain key a (n + 1) hW hh ht
  generalize hashM 1 (hash ++ a) = V at *
  clear C c1 c2 c3 c4 h hk hh ht
  unfold S at *
  go_enter Tryz.func59, Tryz.ntmps59
  go_wp2_with fail
  (with_reducible refine AT.mono ?_)
  rintro e x ⟨rfl, hs, hg⟩
  have AM2 := AM x hs
  have HG := Lib.hid hg
  clear AM hs hg AT
  go_wp2_with fail
  (with_reducible refine AM2.mono ?_)
  rintro e x2 ⟨rfl, hs2, hg2⟩
  have HG2 := Lib.hid (grow_trans HG.out hg2)
  have HS := Lib.hid hs2
  clear hs2 hg2 AM2
  go_wp2_with fail
  go_ret2
  exact ⟨rfl, HS.out, HG2.out⟩

set_option maxRecDepth 100000 in
set_option maxHeartbeats 2000000 in
theorem stSeal2_err (w : World) (b : Nat) (hash chain key text a : List UInt8) (n : Nat) (c : Int) (hc : (c == 0) = false) (h : NSt w b 2 hash chain key n) (hk : key.length = 32) (hn : n < 18446744073709551000)
    (C : ∀ W : World, Calls Tryz.prog 164 #[.agg #[], S key, S (nonL 2 n), S hash, S text] W (Grown (.tuple #[S a, .int .i64 c]) W)) :
    Calls Tryz.prog 59 #[.pointer (some ⟨b, 0, none⟩), S text] w (Grown (.tuple #[S a, .int .i64 c]) w) := by
  have AT := thrSeal2_err w b hash chain key text a n c hc h hk hn C
  obtain ⟨c0, c1, c2, c3, c4⟩ := h.cells
  rw [suV_2] at c0
  have NA := nil_MSSeal
  clear C c1 c2 c3 c4 h hk
  unfold S at *
  go_enter Tryz.func59, Tryz.ntmps59
  go_wp2_with fail
  (with_reducible refine AT.mono ?_)
  rintro e x ⟨rfl, hg⟩
  go_wp2_with fail
  go_ret2
  exact ⟨rfl, hg⟩

set_option maxRecDepth 100000 in
set_option maxHeartbeats 2000000 in
theorem stSeal2_ok (w : World) (b : Nat) (hash chain key text a : List UInt8) (n : Nat) (h : NSt w b 2 hash chain key n) (hk : key.length = 32) (hh : hash.length ≤ 32) (hn : n < 18446744073709551000) (ht : a.length ≤ 9223372036854774000)
    (C : ∀ W : World, Calls Tryz.prog 164 #[.agg #[], S key, S (nonL 2 n), S hash, S text] W (Grown (.tuple #[S a, .int .i64 0]) W)) :
    Calls Tryz.prog 59 #[.pointer (some ⟨b, 0, none⟩), S text] w (fun e w' => e = .returned (.tuple #[S a, .int .i64 0]) ∧ NSt w' b 2 (hashM 2 (hash ++ a)) chain key (n + 1) ∧ w.grownBy w' (some b)) := by
  have AT := thrSeal2_ok w b hash chain key text a n h hk hn C
  obtain ⟨c0, c1, c2, c3, c4⟩ := h.cells
  rw [suV_2] at c0
  have NA := nil_MSSeal
  have AM := fun (W : World) (hW : NSt W b 2 hash chain key (n + 1)) => code_mixhash2 W b hash chain key a (n + 1) hW hh ht
  generalize hashM 2 (hash ++ a) = V at *
  clear C c1 c2 c3 c4 h hk hh ht
  unfold S at *
  go_enter Tryz.func59, Tryz.ntmps59
  go_wp2_with fail
  (with_reducible refine AT.mono ?_)
  rintro e x ⟨rfl, hs, hg⟩
  have AM2 := AM x hs
  have HG := Lib.hid hg
  clear AM hs hg AT
  go_wp2_with fail
  (with_reducible refine AM2.mono ?_)
  rintro e x2 ⟨rfl, hs2, hg2⟩
  have HG2 := Lib.hid (grow_trans HG.out hg2)
  have HS := Lib.hid hs2
  clear hs2 hg2 AM2
  go_wp2_with fail
  go_ret2
  exact ⟨rfl, HS.out, HG2.out⟩

set_option maxRecDepth 100000 in
set_option maxHeartbeats 2000000 in
theorem stOpen1_err (w : World) (b : Nat) (hash chain key text a : List UInt8) (n : Nat) (c : Int) (hc : (c == 0) = false) (h : NSt w b 1 hash chain key n) (hk : key.length = 32) (hn : n < 18446744073709551000)
    (C : ∀ W : World, Calls Tryz.prog 140 #[.agg #[], S key, S (nonL 1 n), S hash, S text] W (Grown (.tuple #[S a, .int .i64 c]) W)) :
    Calls Tryz.prog 46 #[.pointer (some ⟨b, 0, none⟩), S text] w (Grown (.tuple #[S a, .int .i64 c]) w) := by
  have AT := thrOpen1_err w b hash chain key text a n c hc h hk hn C
  obtain ⟨c0, c1, c2, c3, c4⟩ := h.cells
  rw [suV_1] at c0
  have NA := nil_MBOpen
  clear C c1 c2 c3 c4 h hk
  unfold S at *
  go_enter Tryz.func46, Tryz.ntmps46
  go_wp2_with fail
  (with_reducible refine AT.mono ?_)
  rintro e x ⟨rfl, hg⟩
  go_wp2_with fail
  go_ret2
  exact ⟨rfl, hg⟩

set_option maxRecDepth 100000 in
set_option maxHeartbeats 2000000 in
theorem stOpen1_ok (w : World) (b : Nat) (hash chain key text a : List UInt8) (n : Nat) (h : NSt w b 1 hash chain key n) (hk : key.length = 32) (hh : hash.length ≤ 32) (hn : n < 18446744073709551000) (ht : text.length ≤ 9223372036854774000)
    (C : ∀ W : World, Calls Tryz.prog 140 #[.agg #[], S key, S (nonL 1 n), S hash, S text] W (Grown (.tuple #[S a, .int .i64 0]) W)) :
    Calls Tryz.prog 46 #[.pointer (some ⟨b, 0, none⟩), S text] w (fun e w' => e = .returned (.tuple #[S a, .int .i64 0]) ∧ NSt w' b 1 (hashM 1 (hash ++ text)) chain key (n + 1) ∧ w.grownBy w' (some b)) := by
  have AT := thrOpen1_ok w b hash chain key text a n h hk hn C
  obtain ⟨c0, c1, c2, c3, c4⟩ := h.cells
  rw [suV_1] at c0
  have NA := nil_MBOpen
  have AM := fun (W : World) (hW : NSt W b 1 hash chain key (n + 1)) => code_mixhash1 W b hash chain key text (n + 1) hW hh ht
  generalize hashM 1 (hash ++ text) = V at *
  clear C c1 c2 c3 c4 h hk hh ht
  unfold S at *
  go_enter Tryz.func46, Tryz.ntmps46
  go_wp2_with fail
  (with_reducible refine AT.mono ?_)
  rintro e x ⟨rfl, hs, hg⟩
  have AM2 := AM x hs
  have HG := Lib.hid hg
  clear AM hs hg AT
  go_wp2_with fail
  (with_reducible refine AM2.mono ?_)
  rintro e x2 ⟨rfl, hs2, hg2⟩
  have HG2 := Lib.hid (grow_trans HG.out hg2)
  have HS := Lib.hid hs2
  clear hs2 hg2 AM2
  go_wp2_with fail
  go_ret2
  exact ⟨rfl, HS.out, HG2.out⟩

set_option maxRecDepth 100000 in
set_option maxHeartbeats 2000000 in
theorem stOpen2_err (w : World) (b : Nat) (hash chain key text a : List UInt8) (n : Nat) (c : Int) (hc : (c == 0) = false) (h : NSt w b 2 hash chain key n) (hk : key.length = 32) (hn : n < 18446744073709551000)
    (C : ∀ W : World, Calls Tryz.prog 163 #[.agg #[], S key, S (nonL 2 n), S hash, S text] W (Grown (.tuple #[S a, .int .i64 c]) W)) :
    Calls Tryz.prog 46 #[.pointer (some ⟨b, 0, none⟩), S text] w (Grown (.tuple #[S a, .int .i64 c]) w) := by
  have AT := thrOpen2_err w b hash chain key text a n c hc h hk hn C
  obtain ⟨c0, c1, c2, c3, c4⟩ := h.cells
  rw [suV_2] at c0
  have NA := nil_MSOpen
  clear C c1 c2 c3 c4 h hk
  unfold S at *
  go_enter Tryz.func46, Tryz.ntmps46
  go_wp2_with fail
  (with_reducible refine AT.mono ?_)
  rintro e x ⟨rfl, hg⟩
  go_wp2_with fail
  go_ret2
  exact ⟨rfl, hg⟩

set_option maxRecDepth 100000 in
set_option maxHeartbeats 2000000 in
theorem stOpen2_ok (w : World) (b : Nat) (hash chain key text a : List UInt8) (n : Nat) (h : NSt w b 2 hash chain key n) (hk : key.length = 32) (hh : hash.length ≤ 32) (hn : n < 18446744073709551000) (ht : text.length ≤ 9223372036854774000)
    (C : ∀ W : World, Calls Tryz.prog 163 #[.agg #[], S key, S (nonL 2 n), S hash, S text] W (Grown (.tuple #[S a, .int .i64 0]) W)) :
    Calls Tryz.prog 46 #[.pointer (some ⟨b, 0, none⟩), S text] w (fun e w' => e = .returned (.tuple #[S a, .int .i64 0]) ∧ NSt w' b 2 (hashM 2 (hash ++ text)) chain key (n + 1) ∧ w.grownBy w' (some b)) := by
  have AT := thrOpen2_ok w b hash chain key text a n h hk hn C
  obtain ⟨c0, c1, c2, c3, c4⟩ := h.cells
  rw [suV_2] at c0
  have NA := nil_MSOpen
  have AM := fun (W : World) (hW : NSt W b 2 hash chain key (n + 1)) => code_mixhash2 W b hash chain key text (n + 1) hW hh ht
  generalize hashM 2 (hash ++ text) = V at *
  clear C c1 c2 c3 c4 h hk hh ht
  unfold S at *
  go_enter Tryz.func46, Tryz.ntmps46
  go_wp2_with fail
  (with_reducible refine AT.mono ?_)
  rintro e x ⟨rfl, hs, hg⟩
  have AM2 := AM x hs
  have HG := Lib.hid hg
  clear AM hs hg AT
  go_wp2_with fail
  (with_reducible refine AM2.mono ?_)
  rintro e x2 ⟨rfl, hs2, hg2⟩
  have HG2 := Lib.hid (grow_trans HG.out hg2)
  have HS := Lib.hid hs2
  clear hs2 hg2 AM2
  go_wp2_with fail
  go_ret2
  exact ⟨rfl, HS.out, HG2.out⟩

end Go.Proofs.YtcmncdaojmkfgaaGreatDoor
