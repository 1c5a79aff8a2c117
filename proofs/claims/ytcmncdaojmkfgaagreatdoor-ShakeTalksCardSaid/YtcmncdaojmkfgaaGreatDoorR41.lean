/-
  Several texts of this claim in one: NoiseAny, ShakePlain.
-/
import Derived.Test.YtcmncdaojmkfgaaGreatDoorNoiseSM
import Derived.Test.YtcmncdaojmkfgaaGreatDoorNoiseBoth
import Derived.Test.YtcmncdaojmkfgaaGreatDoorNoisePlain
namespace Go.Proofs.YtcmncdaojmkfgaaGreatDoor
open Go.RowKit
set_option linter.unusedVariables false

theorem any_mixkey (w : World) (b suite : Nat) (h12 : suite = 1 ∨ suite = 2) (hash chain key text : List UInt8) (n : Nat) (h : NSt w b suite hash chain key n) (hc : chain.length ≤ 32) (ht : text.length ≤ 9223372036854774000) :
    Calls Tryz.prog 44 #[.pointer (some ⟨b, 0, none⟩), S text] w (Mixed w b suite hash (mk1 suite chain text) (mk2 suite chain text) 0) := by
  rcases h12 with rfl | rfl
  · exact code_mixkey1 w b hash chain key text n h hc ht
  · exact code_mixkey2 w b hash chain key text n h hc ht
theorem any_mixboth (w : World) (b suite : Nat) (h12 : suite = 1 ∨ suite = 2) (hash chain key text : List UInt8) (n : Nat) (h : NSt w b suite hash chain key n) (hc : chain.length ≤ 32) (hh : hash.length ≤ 32) (ht : text.length ≤ 9223372036854774000) :
    Calls Tryz.prog 40 #[.pointer (some ⟨b, 0, none⟩), S text] w (Mixed w b suite (hashM suite (hash ++ mk2 suite chain text)) (mk1 suite chain text) (mk3 suite chain text) 0) := by
  rcases h12 with rfl | rfl
  · exact code_mixboth1 w b hash chain key text n h hc hh ht
  · exact code_mixboth2 w b hash chain key text n h hc hh ht
theorem any_nsplit (w : World) (b suite : Nat) (h12 : suite = 1 ∨ suite = 2) (hash chain key : List UInt8) (n : Nat) (h : NSt w b suite hash chain key n) (hc : chain.length ≤ 32) :
    Calls Tryz.prog 41 #[.pointer (some ⟨b, 0, none⟩)] w (Grown (.tuple #[S (mk1 suite chain []), S (mk2 suite chain [])]) w) := by
  rcases h12 with rfl | rfl
  · exact code_nsplit1 w b hash chain key n h hc
  · exact code_nsplit2 w b hash chain key n h hc
theorem any_nseal (w : World) (b suite : Nat) (h12 : suite = 1 ∨ suite = 2) (hash chain key text : List UInt8) (n : Nat) (h : NSt w b suite hash chain key n) (hk : key.length = 32) (hh : hash.length ≤ 32) (hn : n < 18446744073709551000) (ht : text.length ≤ 2000) :
    Calls Tryz.prog 59 #[.pointer (some ⟨b, 0, none⟩), S text] w (fun e w' => e = .returned (.tuple #[S (sealN suite key n hash text), .int .i64 0]) ∧ NSt w' b suite (hashM suite (hash ++ sealN suite key n hash text)) chain key (n + 1) ∧ w.grownBy w' (some b)) := by
  have la := sealN_length suite key n hash text hk
  rcases h12 with rfl | rfl
  · exact stSeal1_ok w b hash chain key text _ n h hk hh hn (by omega) fun W => code_nBSeal W key (nonL 1 n) hash text _ 0 fun W => code_seal W key (nonL 1 n) hash text hk (nonL_length 1 n) (by omega) ht
  · exact stSeal2_ok w b hash chain key text _ n h hk hh hn (by omega) fun W => code_nSSeal W key (nonL 2 n) hash text _ 0 fun W => code_gseal W key (nonL 2 n) hash text hk (nonL_length 2 n) (by omega) ht
theorem any_nopen (w : World) (b suite : Nat) (h12 : suite = 1 ∨ suite = 2) (hash chain key text : List UInt8) (n : Nat) (h : NSt w b suite hash chain key n) (hk : key.length = 32) (hh : hash.length ≤ 32) (hn : n < 18446744073709551000) (ht : text.length ≤ 2000) :
    Calls Tryz.prog 46 #[.pointer (some ⟨b, 0, none⟩), S (sealN suite key n hash text)] w (fun e w' => e = .returned (.tuple #[S text, .int .i64 0]) ∧ NSt w' b suite (hashM suite (hash ++ sealN suite key n hash text)) chain key (n + 1) ∧ w.grownBy w' (some b)) := by
  have la := sealN_length suite key n hash text hk
  rcases h12 with rfl | rfl
  · exact stOpen1_ok w b hash chain key (sealN 1 key n hash text) text n h hk hh hn (by omega) fun W => code_nBOpen W key (nonL 1 n) hash _ _ 0 fun W => by
      have := code_open W key (nonL 1 n) hash (chxL key (nonL 1 n) 1 text) hk (nonL_length 1 n) (by omega) (by rw [chxL_length]; exact ht)
      rwa [chxL_twice _ _ 1 text (by omega)] at this
  · exact stOpen2_ok w b hash chain key (sealN 2 key n hash text) text n h hk hh hn (by omega) fun W => code_nSOpen W key (nonL 2 n) hash _ _ 0 fun W => by
      have := code_gopen W key (nonL 2 n) hash (gcxL key (nonL 2 n) text) hk (nonL_length 2 n) (by omega) (by rw [gcxL_length _ _ _ hk (nonL_length 2 n)]; exact ht)
      rwa [gcxL_twice _ _ text hk (nonL_length 2 n)] at this

end Go.Proofs.YtcmncdaojmkfgaaGreatDoor

namespace Go.Proofs.YtcmncdaojmkfgaaGreatDoor
open Go.RowKit
set_option linter.unusedVariables false

/-- What a state holds. -/
structure NS where
  h : List UInt8
  c : List UInt8
  k : List UInt8
  n : Nat
structure NS.ok (x : NS) : Prop where
  h : x.h.length = 32
  c : x.c.length = 32
  n : x.n ≤ 1000
def NS.hash (s : Nat) (x : NS) (t : List UInt8) : NS := ⟨hashM s (x.h ++ t), x.c, x.k, x.n⟩
def NS.key (s : Nat) (x : NS) (t : List UInt8) : NS := ⟨x.h, mk1 s x.c t, mk2 s x.c t, 0⟩
def NS.both (s : Nat) (x : NS) (t : List UInt8) : NS := (x.hash s t).key s t
def NS.psk (s : Nat) (x : NS) (t : List UInt8) : NS := ⟨hashM s (x.h ++ mk2 s x.c t), mk1 s x.c t, mk3 s x.c t, 0⟩
def NS.ct (s : Nat) (x : NS) (t : List UInt8) : List UInt8 := sealN s x.k x.n x.h t
def NS.sealed (s : Nat) (x : NS) (t : List UInt8) : NS := ⟨hashM s (x.h ++ x.ct s t), x.c, x.k, x.n + 1⟩
theorem NS.ok.hash {s : Nat} {x : NS} (o : x.ok) (t : List UInt8) : (x.hash s t).ok := ⟨hashM_length _ _, o.c, o.n⟩
theorem NS.ok.key {s : Nat} {x : NS} (o : x.ok) (t : List UInt8) : (x.key s t).ok ∧ (x.key s t).k.length = 32 := ⟨⟨o.h, mk1_length _ _ _, by show 0 ≤ 1000; omega⟩, mk2_length _ _ _⟩
theorem NS.ok.both {s : Nat} {x : NS} (o : x.ok) (t : List UInt8) : (x.both s t).ok ∧ (x.both s t).k.length = 32 := (o.hash t).key t
theorem NS.ok.psk {s : Nat} {x : NS} (o : x.ok) (t : List UInt8) : (x.psk s t).ok ∧ (x.psk s t).k.length = 32 := ⟨⟨hashM_length _ _, mk1_length _ _ _, by show 0 ≤ 1000; omega⟩, mk3_length _ _ _⟩
theorem NS.ok.sealed {s : Nat} {x : NS} (o : x.ok) (hn : x.n < 1000) (hk : x.k.length = 32) (t : List UInt8) : (x.sealed s t).ok ∧ (x.sealed s t).k.length = 32 := ⟨⟨hashM_length _ _, o.c, by show x.n + 1 ≤ 1000; omega⟩, hk⟩
theorem NS.ct_length {s : Nat} {x : NS} (hk : x.k.length = 32) (t : List UInt8) : (x.ct s t).length = t.length + 16 := sealN_length _ _ _ _ _ hk

/-- A state in its block. -/
def NAt (w : World) (b s : Nat) (x : NS) : Prop := NSt w b s x.h x.c x.k x.n
theorem NAt.kept {w w' : World} {b s : Nat} {x : NS} {r : Option Nat} (h : NAt w b s x) (g : w.grownBy w' r) (hr : some b ≠ r) : NAt w' b s x := NSt.kept h g hr
/-- A method that leaves a state as another one. -/
def MixedN (w : World) (b s : Nat) (v : Value) (x : NS) (e : Ending) (w' : World) : Prop := e = .returned v ∧ NAt w' b s x ∧ w.grownBy w' (some b)

theorem n_mixhash (w : World) (b s : Nat) (h12 : s = 1 ∨ s = 2) (x : NS) (o : x.ok) (t : List UInt8) (ht : t.length ≤ 9223372036854774000) (h : NAt w b s x) :
    Calls Tryz.prog 43 #[.pointer (some ⟨b, 0, none⟩), S t] w (MixedN w b s (.tuple #[]) (x.hash s t)) :=
  code_mixhash w b s h12 x.h x.c x.k t x.n h (by rw [o.h]; omega) ht
theorem n_mixkey (w : World) (b s : Nat) (h12 : s = 1 ∨ s = 2) (x : NS) (o : x.ok) (t : List UInt8) (ht : t.length ≤ 9223372036854774000) (h : NAt w b s x) :
    Calls Tryz.prog 44 #[.pointer (some ⟨b, 0, none⟩), S t] w (MixedN w b s (.tuple #[]) (x.key s t)) :=
  any_mixkey w b s h12 x.h x.c x.k t x.n h (by rw [o.c]; omega) ht
theorem n_mixboth (w : World) (b s : Nat) (h12 : s = 1 ∨ s = 2) (x : NS) (o : x.ok) (t : List UInt8) (ht : t.length ≤ 9223372036854774000) (h : NAt w b s x) :
    Calls Tryz.prog 40 #[.pointer (some ⟨b, 0, none⟩), S t] w (MixedN w b s (.tuple #[]) (x.psk s t)) :=
  any_mixboth w b s h12 x.h x.c x.k t x.n h (by rw [o.c]; omega) (by rw [o.h]; omega) ht
theorem n_seal (w : World) (b s : Nat) (h12 : s = 1 ∨ s = 2) (x : NS) (o : x.ok) (hk : x.k.length = 32) (t : List UInt8) (ht : t.length ≤ 2000) (h : NAt w b s x) :
    Calls Tryz.prog 59 #[.pointer (some ⟨b, 0, none⟩), S t] w (MixedN w b s (.tuple #[S (x.ct s t), .int .i64 0]) (x.sealed s t)) :=
  any_nseal w b s h12 x.h x.c x.k t x.n h hk (by rw [o.h]; omega) (by have := o.n; omega) ht
theorem n_open (w : World) (b s : Nat) (h12 : s = 1 ∨ s = 2) (x : NS) (o : x.ok) (hk : x.k.length = 32) (t : List UInt8) (ht : t.length ≤ 2000) (h : NAt w b s x) :
    Calls Tryz.prog 46 #[.pointer (some ⟨b, 0, none⟩), S (x.ct s t)] w (MixedN w b s (.tuple #[S t, .int .i64 0]) (x.sealed s t)) :=
  any_nopen w b s h12 x.h x.c x.k t x.n h hk (by rw [o.h]; omega) (by have := o.n; omega) ht
theorem n_split (w : World) (b s : Nat) (h12 : s = 1 ∨ s = 2) (x : NS) (o : x.ok) (h : NAt w b s x) :
    Calls Tryz.prog 41 #[.pointer (some ⟨b, 0, none⟩)] w (Grown (.tuple #[S (mk1 s x.c []), S (mk2 s x.c [])]) w) :=
  any_nsplit w b s h12 x.h x.c x.k x.n h (by rw [o.c]; omega)
def begS (s : Nat) (pro : List UInt8) : NS := ⟨hashM s (begH s ++ pro), begH s, [], 0⟩
theorem begS_ok (s : Nat) (h12 : s = 1 ∨ s = 2) (pro : List UInt8) : (begS s pro).ok := ⟨hashM_length _ _, begH_length s h12, by show 0 ≤ 1000; omega⟩
theorem n_new (w : World) (s : Nat) (h12 : s = 1 ∨ s = 2) (pro : List UInt8) (hp : pro.length ≤ 9223372036854774000) :
    Calls Tryz.prog 42 #[.int .i64 (s : Int), S pro] w (fun e w' => ∃ b, e = .returned (.tuple #[.pointer (some ⟨b, 0, none⟩), .int .i64 0]) ∧ NAt w' b s (begS s pro) ∧ w.grownBy w' none ∧ w.heap.size ≤ b) :=
  code_nnew w s h12 pro hp

end Go.Proofs.YtcmncdaojmkfgaaGreatDoor
