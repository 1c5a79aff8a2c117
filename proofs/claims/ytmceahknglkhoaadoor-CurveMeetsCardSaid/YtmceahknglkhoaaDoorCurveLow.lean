/- Curve: numbers of few multiples: the ladder ends at nought. (Written by wip/gen/curvelow.py.) -/
import Derived.Test.YtmceahknglkhoaaDoorFinP
import Derived.Test.YtmceahknglkhoaaDoorCurvePlain
namespace Go.Proofs.YtmceahknglkhoaaDoor
set_option linter.unusedVariables false

/-- A pair that is a multiple of another one. -/
def Scl (x z p q : Nat) : Prop := ∃ s : Fin PP, fi x = s * fi p ∧ fi z = s * fi q
theorem fi_nmul (x y : Nat) : fi (x * y) = fi x * fi y := by
  apply Fin.ext
  rw [Fin.val_mul, fi_val, fi_val, fi_val, ← Nat.mul_mod]
theorem Scl.dbl {x z p q p' q' l : Nat} (h : Scl x z p q) (h1 : ladX2 p q % PP = (l * p') % PP) (h2 : ladZ2 p q % PP = (l * q') % PP) : Scl (ladX2 x z) (ladZ2 x z) p' q' := by
  obtain ⟨s, e1, e2⟩ := h
  refine ⟨s * s * (s * s) * fi l, ?_, ?_⟩
  · rw [fi_X2, e1, e2, rX_sc, ← fi_X2, fi_eq.2 h1, fi_nmul]; simp only [Fin.mul_assoc]
  · rw [fi_Z2, e1, e2, rZ_sc, ← fi_Z2, fi_eq.2 h2, fi_nmul]; simp only [Fin.mul_assoc]
theorem Scl.add {u x z x' z' p q p' q' P Q l : Nat} (h : Scl x z p q) (h' : Scl x' z' p' q') (h1 : ladX3 p q p' q' % PP = (l * P) % PP) (h2 : ladZ3 u p q p' q' % PP = (l * Q) % PP) : Scl (ladX3 x z x' z') (ladZ3 u x z x' z') P Q := by
  obtain ⟨s, e1, e2⟩ := h
  obtain ⟨t, e3, e4⟩ := h'
  refine ⟨s * t * (s * t) * fi l, ?_, ?_⟩
  · rw [fi_X3, e1, e2, e3, e4, rX3_sc, ← fi_X3, fi_eq.2 h1, fi_nmul]; simp only [Fin.mul_assoc]
  · rw [fi_Z3, e1, e2, e3, e4, rZ3_sc, ← fi_Z3, fi_eq.2 h2, fi_nmul]; simp only [Fin.mul_assoc]

/-- A class of states; where each bit leads. -/
structure Cls where
  sw : Nat
  p2 : Nat
  q2 : Nat
  p3 : Nat
  q3 : Nat
  t0 : Nat
  l0 : Nat
  m0 : Nat
  t1 : Nat
  l1 : Nat
  m1 : Nat
structure Mat (s : Lad) (c : Cls) : Prop where
  sw : s.sw = c.sw
  two : Scl s.x2 s.z2 c.p2 c.q2
  three : Scl s.x3 s.z3 c.p3 c.q3
/-- Does a step lead there? -/
def okS (u b p q p' q' l m : Nat) (d : Cls) : Bool := d.sw == b && ladX2 p q % PP == (l * d.p2) % PP && ladZ2 p q % PP == (l * d.q2) % PP && ladX3 p q p' q' % PP == (m * d.p3) % PP && ladZ3 u p q p' q' % PP == (m * d.q3) % PP
def okC (u : Nat) (T : List Cls) (c : Cls) : Bool :=
  (match T[c.t0]? with
   | some d => if c.sw = 0 then okS u 0 c.p2 c.q2 c.p3 c.q3 c.l0 c.m0 d else okS u 0 c.p3 c.q3 c.p2 c.q2 c.l0 c.m0 d
   | none => false) &&
  (match T[c.t1]? with
   | some d => if c.sw = 1 then okS u 1 c.p2 c.q2 c.p3 c.q3 c.l1 c.m1 d else okS u 1 c.p3 c.q3 c.p2 c.q2 c.l1 c.m1 d
   | none => false)
def okT (u : Nat) (T : List Cls) : Bool := T.all (okC u T)
theorem okS_mat {u b p q p' q' l m : Nat} {d : Cls} (h : okS u b p q p' q' l m d = true) {s : Lad} (hs : s.sw = b) (h2 : Scl s.x2 s.z2 p q) (h3 : Scl s.x3 s.z3 p' q') : Mat (s.step u) d := by
  unfold okS at h
  simp only [Bool.and_eq_true, beq_iff_eq] at h
  obtain ⟨⟨⟨⟨a, e1⟩, e2⟩, e3⟩, e4⟩ := h
  exact ⟨by rw [a]; exact hs, h2.dbl e1 e2, h2.add h3 e3 e4⟩
theorem step0 {u : Nat} {T : List Cls} (hT : okT u T = true) {c : Cls} (hc : c ∈ T) {s : Lad} (h : Mat s c) : ∃ d, T[c.t0]? = some d ∧ Mat ((s.turn 0).step u) d := by
  have hk := List.all_eq_true.1 hT c hc
  unfold okC at hk
  rw [Bool.and_eq_true] at hk
  have h0 := hk.1
  rcases e : T[c.t0]? with _ | d
  · rw [e] at h0; cases h0
  · rw [e] at h0
    refine ⟨d, rfl, ?_⟩
    unfold Lad.turn
    by_cases hs : c.sw = 0
    · simp only [if_pos hs] at h0
      rw [if_pos (by rw [h.sw, hs])]
      exact okS_mat h0 (by rw [h.sw, hs]) h.two h.three
    · simp only [if_neg hs] at h0
      rw [if_neg (by rw [h.sw]; exact fun e => hs e.symm)]
      exact okS_mat h0 rfl h.three h.two
theorem step1 {u : Nat} {T : List Cls} (hT : okT u T = true) {c : Cls} (hc : c ∈ T) {s : Lad} (h : Mat s c) : ∃ d, T[c.t1]? = some d ∧ Mat ((s.turn 1).step u) d := by
  have hk := List.all_eq_true.1 hT c hc
  unfold okC at hk
  rw [Bool.and_eq_true] at hk
  have h0 := hk.2
  rcases e : T[c.t1]? with _ | d
  · rw [e] at h0; cases h0
  · rw [e] at h0
    refine ⟨d, rfl, ?_⟩
    unfold Lad.turn
    by_cases hs : c.sw = 1
    · simp only [if_pos hs] at h0
      rw [if_pos (by rw [h.sw, hs])]
      exact okS_mat h0 (by rw [h.sw, hs]) h.two h.three
    · simp only [if_neg hs] at h0
      rw [if_neg (by rw [h.sw]; exact fun e => hs e.symm)]
      exact okS_mat h0 rfl h.three h.two
theorem run_cls {u : Nat} {T : List Cls} (hT : okT u T = true) {c0 : Cls} (h0 : T[0]? = some c0) (hc : c0.sw = 0 ∧ c0.p2 = 1 ∧ c0.q2 = 0 ∧ c0.p3 = u ∧ c0.q3 = 1) (k : Nat) : ∀ i, ∃ c ∈ T, Mat (ladS k u i) c
  | 0 => by
    obtain ⟨a, b, c, d, e⟩ := hc
    refine ⟨c0, List.mem_of_getElem? h0, a.symm, ⟨1, ?_, ?_⟩, ⟨1, ?_, ?_⟩⟩
    · rw [b, Fin.one_mul]; rfl
    · rw [c, Fin.one_mul]; rfl
    · rw [d, Fin.one_mul]; rfl
    · rw [e, Fin.one_mul]; rfl
  | i + 1 => by
    obtain ⟨c, hm, hs⟩ := run_cls hT h0 hc k i
    have hb : k / 2 ^ (254 - i) % 2 = 0 ∨ k / 2 ^ (254 - i) % 2 = 1 := by omega
    have e : ladS k u (i + 1) = ((ladS k u i).turn (k / 2 ^ (254 - i) % 2)).step u := rfl
    rw [e]
    rcases hb with hb | hb
    · rw [hb]
      obtain ⟨d, h1, h2⟩ := step0 hT hm hs
      exact ⟨d, List.mem_of_getElem? h1, h2⟩
    · rw [hb]
      obtain ⟨d, h1, h2⟩ := step1 hT hm hs
      exact ⟨d, List.mem_of_getElem? h1, h2⟩
/-- Three bits 0 lead to nought. -/
def okF (T : List Cls) (c : Cls) : Bool :=
  match T[c.t0]? with
  | some d => match T[d.t0]? with
    | some e => match T[e.t0]? with
      | some f => f.q2 == 0 && f.sw == 0
      | none => false
    | none => false
  | none => false
theorem ends_nought {u : Nat} {T : List Cls} (hT : okT u T = true) (hF : T.all (okF T) = true) {c0 : Cls} (h0 : T[0]? = some c0) (hc : c0.sw = 0 ∧ c0.p2 = 1 ∧ c0.q2 = 0 ∧ c0.p3 = u ∧ c0.q3 = 1) (k : Nat) (hk : k % 8 = 0) : ladN k u = 0 := by
  obtain ⟨c, hm, hs⟩ := run_cls hT h0 hc k 252
  have e1 : ladS k u 253 = ((ladS k u 252).turn 0).step u := by
    show ((ladS k u 252).turn (k / 2 ^ (254 - 252) % 2)).step u = _
    rw [show k / 2 ^ (254 - 252) % 2 = 0 from by omega]
  have e2 : ladS k u 254 = ((ladS k u 253).turn 0).step u := by
    show ((ladS k u 253).turn (k / 2 ^ (254 - 253) % 2)).step u = _
    rw [show k / 2 ^ (254 - 253) % 2 = 0 from by omega]
  have e3 : ladS k u 255 = ((ladS k u 254).turn 0).step u := by
    show ((ladS k u 254).turn (k / 2 ^ (254 - 254) % 2)).step u = _
    rw [show k / 2 ^ (254 - 254) % 2 = 0 from by omega]
  obtain ⟨d, d1, d2⟩ := step0 hT hm hs
  rw [← e1] at d2
  obtain ⟨e, f1, f2⟩ := step0 hT (List.mem_of_getElem? d1) d2
  rw [← e2] at f2
  obtain ⟨f, g1, g2⟩ := step0 hT (List.mem_of_getElem? f1) f2
  rw [← e3] at g2
  have hf := List.all_eq_true.1 hF c hm
  unfold okF at hf
  rw [d1] at hf
  simp only at hf
  rw [f1] at hf
  simp only at hf
  rw [g1] at hf
  simp only [Bool.and_eq_true, beq_iff_eq] at hf
  obtain ⟨s, _, hz⟩ := g2.two
  rw [hf.1] at hz
  have hz0 : (ladS k u 255).z2 % PP = 0 := by
    have h := congrArg Fin.val hz
    rw [fi_val, Fin.val_mul, fi_val, Nat.zero_mod, Nat.mul_zero, Nat.zero_mod] at h
    exact h
  have hsw : ¬ (ladS k u 255).sw = 1 := by rw [g2.sw, hf.2]; omega
  have hp : 2 < PP := by rw [PP_eq]; omega
  unfold ladN ladOut
  rw [if_neg hsw]
  unfold mulP
  rw [Nat.mul_mod, Nat.pow_mod, hz0, Nat.zero_pow (by omega), Nat.zero_mod, Nat.mul_zero, Nat.zero_mod]
theorem clamp_eight (key : List UInt8) (hk : key.length = 32) : leN (clampL key) % 8 = 0 := by
  have h0 : (clampL key)[0]? = some (key.getD 0 0 &&& 248) := by
    unfold clampL
    rw [List.getElem?_set_ne (by omega), List.getElem?_set_self (by omega)]
  have hl := clampL_length key
  rcases e : clampL key with _ | ⟨c, r⟩
  · rw [e] at hl; simp at hl; omega
  · rw [e] at h0
    have hc : c = key.getD 0 0 &&& 248 := by simpa using h0
    have h8 : c.toNat % 8 = 0 := by
      have : ∀ n : Fin 256, (UInt8.ofNat n.val &&& 248).toNat % 8 = 0 := by decide +kernel
      have h := this ⟨(key.getD 0 0).toNat, UInt8.toNat_lt _⟩
      rw [hc]
      simpa using h
    simp only [leN]
    omega
theorem low_mult (key u : List UInt8) (hk : key.length = 32) (x : Nat) (hx : leN (maskL u) = x) {T : List Cls} (hT : okT x T = true) (hF : T.all (okF T) = true) {c0 : Cls} (h0 : T[0]? = some c0) (hc : c0.sw = 0 ∧ c0.p2 = 1 ∧ c0.q2 = 0 ∧ c0.p3 = x ∧ c0.q3 = 1) : multL key u = leB 0 32 := by
  unfold multL
  rw [hx, ends_nought hT hF h0 hc _ (clamp_eight key hk), Nat.zero_mod]

def lowT0 : List Cls := [⟨0, 1, 0, 0, 1, 1, 1, 0, 2, 1, 0⟩,
  ⟨0, 1, 0, 0, 0, 1, 1, 0, 3, 0, 0⟩,
  ⟨1, 1, 0, 0, 0, 4, 0, 0, 2, 1, 0⟩,
  ⟨1, 0, 0, 0, 0, 4, 0, 0, 3, 0, 0⟩,
  ⟨0, 0, 0, 0, 0, 4, 0, 0, 3, 0, 0⟩]
theorem lowT0_ok : okT 0 lowT0 = true ∧ lowT0.all (okF lowT0) = true := by decide +kernel
def lowU0 : List UInt8 := [0, 0, 0, 0, 0, 0, 0, 0, 0, 0, 0, 0, 0, 0, 0, 0, 0, 0, 0, 0, 0, 0, 0, 0, 0, 0, 0, 0, 0, 0, 0, 0]
theorem low_mult0 (key : List UInt8) (hk : key.length = 32) : multL key lowU0 = leB 0 32 :=
  low_mult key lowU0 hk 0 (by decide +kernel) lowT0_ok.1 lowT0_ok.2 rfl ⟨rfl, rfl, rfl, rfl, rfl⟩
def lowT1 : List Cls := [⟨0, 1, 0, 1, 1, 0, 1, 4, 1, 1946656, 4⟩,
  ⟨1, 0, 1, 1, 1, 2, 1946656, 4, 3, 1, 4⟩,
  ⟨0, 0, 1, 1, 1, 0, 1, 4, 1, 1946656, 4⟩,
  ⟨1, 1, 0, 1, 1, 2, 1946656, 4, 3, 1, 4⟩]
theorem lowT1_ok : okT 1 lowT1 = true ∧ lowT1.all (okF lowT1) = true := by decide +kernel
def lowU1 : List UInt8 := [1, 0, 0, 0, 0, 0, 0, 0, 0, 0, 0, 0, 0, 0, 0, 0, 0, 0, 0, 0, 0, 0, 0, 0, 0, 0, 0, 0, 0, 0, 0, 0]
theorem low_mult1 (key : List UInt8) (hk : key.length = 32) : multL key lowU1 = leB 0 32 :=
  low_mult key lowU1 hk 1 (by decide +kernel) lowT1_ok.1 lowT1_ok.2 rfl ⟨rfl, rfl, rfl, rfl, rfl⟩
def lowT2 : List Cls := [⟨0, 1, 0, 57896044618658097711785492504343953926634992332820282019728792003956564819948, 1, 0, 1, 57896044618658097711785492504343953926634992332820282019728792003956564819945, 1, 1946640, 57896044618658097711785492504343953926634992332820282019728792003956564819945⟩,
  ⟨1, 0, 1, 57896044618658097711785492504343953926634992332820282019728792003956564819948, 1, 2, 1946640, 57896044618658097711785492504343953926634992332820282019728792003956564819945, 3, 1, 57896044618658097711785492504343953926634992332820282019728792003956564819945⟩,
  ⟨0, 0, 1, 57896044618658097711785492504343953926634992332820282019728792003956564819948, 1, 0, 1, 57896044618658097711785492504343953926634992332820282019728792003956564819945, 1, 1946640, 57896044618658097711785492504343953926634992332820282019728792003956564819945⟩,
  ⟨1, 1, 0, 57896044618658097711785492504343953926634992332820282019728792003956564819948, 1, 2, 1946640, 57896044618658097711785492504343953926634992332820282019728792003956564819945, 3, 1, 57896044618658097711785492504343953926634992332820282019728792003956564819945⟩]
theorem lowT2_ok : okT 57896044618658097711785492504343953926634992332820282019728792003956564819948 lowT2 = true ∧ lowT2.all (okF lowT2) = true := by decide +kernel
def lowU2 : List UInt8 := [236, 255, 255, 255, 255, 255, 255, 255, 255, 255, 255, 255, 255, 255, 255, 255, 255, 255, 255, 255, 255, 255, 255, 255, 255, 255, 255, 255, 255, 255, 255, 127]
theorem low_mult2 (key : List UInt8) (hk : key.length = 32) : multL key lowU2 = leB 0 32 :=
  low_mult key lowU2 hk 57896044618658097711785492504343953926634992332820282019728792003956564819948 (by decide +kernel) lowT2_ok.1 lowT2_ok.2 rfl ⟨rfl, rfl, rfl, rfl, rfl⟩
def lowT3 : List Cls := [⟨0, 1, 0, 325606250916557431795983626356110631294008115727848805560023387167927233504, 1, 0, 1, 1302425003666229727183934505424442525176032462911395222240093548671708934016, 1, 45396917006225111810827341870339786373668205820213556558545403612143054885807, 1302425003666229727183934505424442525176032462911395222240093548671708934016⟩,
  ⟨1, 1, 1, 325606250916557431795983626356110631294008115727848805560023387167927233504, 1, 2, 45396917006225111810827341870339786373668205820213556558545403612143054885807, 48761077026508114957042383884231568914342515009330145294212738689583669055707, 3, 1946656, 48761077026508114957042383884231568914342515009330145294212738689583669055707⟩,
  ⟨0, 1, 1, 39382357235489614581723060781553021112529911719440698176882885853963445705823, 1, 4, 1946656, 43039764708308492630505192622948619122025694675033623890314052956612362117402, 5, 24871845842723059791009793099485790699430777617945840999563689295137248234743, 43039764708308492630505192622948619122025694675033623890314052956612362117402⟩,
  ⟨1, 0, 1, 39382357235489614581723060781553021112529911719440698176882885853963445705823, 1, 6, 24871845842723059791009793099485790699430777617945840999563689295137248234743, 41737339704642262903321258117524176596849662212122228668073959407940653183394, 7, 1, 41737339704642262903321258117524176596849662212122228668073959407940653183394⟩,
  ⟨0, 0, 1, 39382357235489614581723060781553021112529911719440698176882885853963445705823, 1, 0, 1, 41737339704642262903321258117524176596849662212122228668073959407940653183394, 1, 24871845842723059791009793099485790699430777617945840999563689295137248234743, 41737339704642262903321258117524176596849662212122228668073959407940653183394⟩,
  ⟨1, 1, 1, 39382357235489614581723060781553021112529911719440698176882885853963445705823, 1, 2, 24871845842723059791009793099485790699430777617945840999563689295137248234743, 43039764708308492630505192622948619122025694675033623890314052956612362117402, 3, 1946656, 43039764708308492630505192622948619122025694675033623890314052956612362117402⟩,
  ⟨0, 1, 1, 325606250916557431795983626356110631294008115727848805560023387167927233504, 1, 4, 1946656, 48761077026508114957042383884231568914342515009330145294212738689583669055707, 5, 45396917006225111810827341870339786373668205820213556558545403612143054885807, 48761077026508114957042383884231568914342515009330145294212738689583669055707⟩,
  ⟨1, 1, 0, 325606250916557431795983626356110631294008115727848805560023387167927233504, 1, 6, 45396917006225111810827341870339786373668205820213556558545403612143054885807, 1302425003666229727183934505424442525176032462911395222240093548671708934016, 7, 1, 1302425003666229727183934505424442525176032462911395222240093548671708934016⟩]
theorem lowT3_ok : okT 325606250916557431795983626356110631294008115727848805560023387167927233504 lowT3 = true ∧ lowT3.all (okF lowT3) = true := by decide +kernel
def lowU3 : List UInt8 := [224, 235, 122, 124, 59, 65, 184, 174, 22, 86, 227, 250, 241, 159, 196, 106, 218, 9, 141, 235, 156, 50, 177, 253, 134, 98, 5, 22, 95, 73, 184, 0]
theorem low_mult3 (key : List UInt8) (hk : key.length = 32) : multL key lowU3 = leB 0 32 :=
  low_mult key lowU3 hk 325606250916557431795983626356110631294008115727848805560023387167927233504 (by decide +kernel) lowT3_ok.1 lowT3_ok.2 rfl ⟨rfl, rfl, rfl, rfl, rfl⟩
def lowT4 : List Cls := [⟨0, 1, 0, 39382357235489614581723060781553021112529911719440698176882885853963445705823, 1, 0, 1, 41737339704642262903321258117524176596849662212122228668073959407940653183394, 1, 24871845842723059791009793099485790699430777617945840999563689295137248234743, 41737339704642262903321258117524176596849662212122228668073959407940653183394⟩,
  ⟨1, 1, 1, 39382357235489614581723060781553021112529911719440698176882885853963445705823, 1, 2, 24871845842723059791009793099485790699430777617945840999563689295137248234743, 29413069106274463474381376223629838744232671384783177375155860718774123457394, 3, 1946656, 29413069106274463474381376223629838744232671384783177375155860718774123457394⟩,
  ⟨0, 1, 1, 325606250916557431795983626356110631294008115727848805560023387167927233504, 1, 4, 1946656, 43039764708308492630505192622948619122025694675033623890314052956612362117402, 5, 45396917006225111810827341870339786373668205820213556558545403612143054885807, 43039764708308492630505192622948619122025694675033623890314052956612362117402⟩,
  ⟨1, 0, 1, 325606250916557431795983626356110631294008115727848805560023387167927233504, 1, 6, 45396917006225111810827341870339786373668205820213556558545403612143054885807, 1302425003666229727183934505424442525176032462911395222240093548671708934016, 7, 1, 1302425003666229727183934505424442525176032462911395222240093548671708934016⟩,
  ⟨0, 0, 1, 325606250916557431795983626356110631294008115727848805560023387167927233504, 1, 0, 1, 1302425003666229727183934505424442525176032462911395222240093548671708934016, 1, 45396917006225111810827341870339786373668205820213556558545403612143054885807, 1302425003666229727183934505424442525176032462911395222240093548671708934016⟩,
  ⟨1, 1, 1, 325606250916557431795983626356110631294008115727848805560023387167927233504, 1, 2, 45396917006225111810827341870339786373668205820213556558545403612143054885807, 43039764708308492630505192622948619122025694675033623890314052956612362117402, 3, 1946656, 43039764708308492630505192622948619122025694675033623890314052956612362117402⟩,
  ⟨0, 1, 1, 39382357235489614581723060781553021112529911719440698176882885853963445705823, 1, 4, 1946656, 29413069106274463474381376223629838744232671384783177375155860718774123457394, 5, 24871845842723059791009793099485790699430777617945840999563689295137248234743, 29413069106274463474381376223629838744232671384783177375155860718774123457394⟩,
  ⟨1, 1, 0, 39382357235489614581723060781553021112529911719440698176882885853963445705823, 1, 6, 24871845842723059791009793099485790699430777617945840999563689295137248234743, 41737339704642262903321258117524176596849662212122228668073959407940653183394, 7, 1, 41737339704642262903321258117524176596849662212122228668073959407940653183394⟩]
theorem lowT4_ok : okT 39382357235489614581723060781553021112529911719440698176882885853963445705823 lowT4 = true ∧ lowT4.all (okF lowT4) = true := by decide +kernel
def lowU4 : List UInt8 := [95, 156, 149, 188, 163, 80, 140, 36, 177, 208, 177, 85, 156, 131, 239, 91, 4, 68, 92, 196, 88, 28, 142, 134, 216, 34, 78, 221, 208, 159, 17, 87]
theorem low_mult4 (key : List UInt8) (hk : key.length = 32) : multL key lowU4 = leB 0 32 :=
  low_mult key lowU4 hk 39382357235489614581723060781553021112529911719440698176882885853963445705823 (by decide +kernel) lowT4_ok.1 lowT4_ok.2 rfl ⟨rfl, rfl, rfl, rfl, rfl⟩

end Go.Proofs.YtmceahknglkhoaaDoor
