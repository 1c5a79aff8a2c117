/- Blocks as polynomials, in plain numbers: the laws of the field. -/
import Derived.Test.YtffeekfofbcobaaGreatBase
namespace Go.Proofs.YtffeekfofbcobaaGreat
set_option linter.unusedVariables false

def hOne : Nat := 2 ^ 127
def hRed : Nat := 0xe1000000000000000000000000000000
/-- times x -/
def qx (a : Nat) : Nat := a / 2 ^^^ (a % 2) * hRed
/-- the loop of times, so many rounds -/
def hm : Nat → Nat → Nat → Nat → Nat
  | 0, n, _, _ => n
  | f + 1, n, p, q => hm f (n ^^^ (p / 2 ^ f % 2) * q) p (qx q)
def hmul (p q : Nat) : Nat := hm 128 0 p q

theorem hxor_lt {a b : Nat} (ha : a < 2 ^ 128) (hb : b < 2 ^ 128) : a ^^^ b < 2 ^ 128 := Nat.xor_lt_two_pow ha hb
theorem hbit_l {s t k : Nat} (hs : s < 2) (ht : t < 2) : (s ^^^ t) * k = s * k ^^^ t * k := by
  match s, t, hs, ht with
  | 0, 0, _, _ => simp
  | 0, 1, _, _ => simp
  | 1, 0, _, _ => simp
  | 1, 1, _, _ => simp
theorem hbit_r {a b t : Nat} (ht : t < 2) : t * (a ^^^ b) = t * a ^^^ t * b := by
  match t, ht with
  | 0, _ => simp
  | 1, _ => simp
theorem hbit_lt {t k : Nat} (ht : t < 2) (hk : k < 2 ^ 128) : t * k < 2 ^ 128 := by
  match t, ht with
  | 0, _ => simp
  | 1, _ => simpa using hk

theorem qx_xor (a b : Nat) : qx (a ^^^ b) = qx a ^^^ qx b := by
  unfold qx
  have e1 : (a ^^^ b) / 2 = a / 2 ^^^ b / 2 := Nat.xor_div_two_pow (n := 1)
  have e2 : (a ^^^ b) % 2 = a % 2 ^^^ b % 2 := Nat.xor_mod_two_pow (n := 1)
  rw [e1, e2, hbit_l (by omega) (by omega)]
  ac_rfl
theorem qx_lt {a : Nat} (ha : a < 2 ^ 128) : qx a < 2 ^ 128 := by
  unfold qx
  exact hxor_lt (by omega) (hbit_lt (by omega) (by decide))

theorem hm_lt : ∀ (f n p q : Nat), n < 2 ^ 128 → q < 2 ^ 128 → hm f n p q < 2 ^ 128
  | 0, n, p, q, hn, _ => hn
  | f + 1, n, p, q, hn, hq => hm_lt f _ _ _ (hxor_lt hn (hbit_lt (by omega) hq)) (qx_lt hq)
theorem hmul_lt (p : Nat) {q : Nat} (hq : q < 2 ^ 128) : hmul p q < 2 ^ 128 := hm_lt 128 0 p q (by decide) hq

theorem hm_xor_r : ∀ (f n n' p q q' : Nat), hm f (n ^^^ n') p (q ^^^ q') = hm f n p q ^^^ hm f n' p q'
  | 0, n, n', p, q, q' => rfl
  | f + 1, n, n', p, q, q' => by
    simp only [hm]
    rw [qx_xor, hbit_r (by omega), ← hm_xor_r f]
    congr 1
    ac_rfl
theorem hmul_xor_r (p q q' : Nat) : hmul p (q ^^^ q') = hmul p q ^^^ hmul p q' := hm_xor_r 128 0 0 p q q'
theorem hm_xor_l : ∀ (f n n' p p' q : Nat), hm f (n ^^^ n') (p ^^^ p') q = hm f n p q ^^^ hm f n' p' q
  | 0, n, n', p, p', q => rfl
  | f + 1, n, n', p, p', q => by
    simp only [hm]
    have e : (p ^^^ p') / 2 ^ f % 2 = p / 2 ^ f % 2 ^^^ p' / 2 ^ f % 2 := by
      rw [Nat.xor_div_two_pow]; exact Nat.xor_mod_two_pow (n := 1)
    rw [e, hbit_l (by omega) (by omega), ← hm_xor_l f]
    congr 1
    ac_rfl
theorem hmul_xor_l (p p' q : Nat) : hmul (p ^^^ p') q = hmul p q ^^^ hmul p' q := hm_xor_l 128 0 0 p p' q
theorem hm_qx : ∀ (f n p q : Nat), hm f (qx n) p (qx q) = qx (hm f n p q)
  | 0, n, p, q => rfl
  | f + 1, n, p, q => by
    simp only [hm]
    rw [← hm_qx f, qx_xor]
    congr 2
    have : p / 2 ^ f % 2 < 2 := by omega
    generalize p / 2 ^ f % 2 = t at *
    match t, this with
    | 0, _ => simp [qx]
    | 1, _ => simp
theorem hmul_qx_r (p q : Nat) : hmul p (qx q) = qx (hmul p q) := hm_qx 128 0 p q
theorem hmul_zero (p : Nat) : hmul p 0 = 0 := by simpa using hmul_xor_r p 0 0
theorem zero_hmul (q : Nat) : hmul 0 q = 0 := by simpa using hmul_xor_l 0 0 q

theorem hjoin (k a b : Nat) (hb : b < 2 ^ k) : 2 ^ k * a ^^^ b = 2 ^ k * a + b := by
  rw [Nat.two_pow_add_eq_or_of_lt hb]
  apply Nat.eq_of_testBit_eq
  intro i
  rw [Nat.testBit_xor, Nat.testBit_or, Nat.testBit_two_pow_mul]
  by_cases hi : k ≤ i
  · rw [Nat.testBit_lt_two_pow (Nat.lt_of_lt_of_le hb (Nat.pow_le_pow_right (by omega) hi))]
    simp
  · simp [hi]
theorem qx_half (a : Nat) (h : a % 2 = 0) : qx a = a / 2 := by unfold qx; rw [h]; simp
theorem hm_one : ∀ (f n p : Nat), hm (f + 1) n p (2 ^ f) = n ^^^ p % 2 ^ (f + 1)
  | 0, n, p => by simp [hm]
  | f + 1, n, p => by
    rw [hm, qx_half _ (by rw [Nat.pow_succ]; omega), show 2 ^ (f + 1) / 2 = 2 ^ f from by rw [Nat.pow_succ]; omega, hm_one f, Nat.xor_assoc]
    congr 1
    have h1 : p % 2 ^ (f + 1 + 1) = 2 ^ (f + 1) * (p / 2 ^ (f + 1) % 2) + p % 2 ^ (f + 1) := by
      rw [Nat.pow_succ 2 (f + 1), Nat.mod_mul]; omega
    rw [h1, Nat.mul_comm, hjoin _ _ _ (Nat.mod_lt _ (Nat.two_pow_pos _))]
theorem hmul_one {p : Nat} (hp : p < 2 ^ 128) : hmul p hOne = p := by
  have := hm_one 127 0 p
  rw [Nat.mod_eq_of_lt hp, Nat.zero_xor] at this
  exact this
theorem hm_none : ∀ (f n q : Nat), f ≤ 127 → hm f n hOne q = n
  | 0, n, q, _ => rfl
  | f + 1, n, q, h => by
    rw [hm]
    have e : hOne / 2 ^ f % 2 = 0 := by
      unfold hOne
      rw [Nat.pow_div (by omega) (by omega), show 127 - f = (126 - f) + 1 from by omega, Nat.pow_succ]
      omega
    rw [e, Nat.zero_mul, Nat.xor_zero]
    exact hm_none f n _ (by omega)
theorem one_hmul (q : Nat) : hmul hOne q = q := by
  unfold hmul
  rw [hm, hm_none 127 _ _ (by omega), show hOne / 2 ^ 127 % 2 = 1 from by decide, Nat.one_mul, Nat.zero_xor]

/-- WHAT HOLDS OF 0 AND OF 1, goes over to sums and to x times it, holds of each block. -/
theorem hind (p : Nat → Prop) (h0 : p 0) (h1 : p hOne) (hX : ∀ a, a < 2 ^ 128 → p a → p (qx a)) (hA : ∀ a b, a < 2 ^ 128 → b < 2 ^ 128 → p a → p b → p (a ^^^ b)) : ∀ c, c < 2 ^ 128 → p c := by
  have key : ∀ k, ∀ m, m < 2 ^ k → k ≤ 128 → p (m * 2 ^ (128 - k)) := by
    intro k
    induction k with
    | zero => intro m hm _; obtain rfl : m = 0 := by simpa using hm
              simpa using h0
    | succ k ih =>
      intro m hm hk
      have e : m * 2 ^ (128 - (k + 1)) = qx ((m % 2 ^ k) * 2 ^ (128 - k)) ^^^ (m / 2 ^ k) * hOne := by
        have e1 : 2 ^ (128 - k) = 2 ^ (128 - (k + 1)) * 2 := by rw [← Nat.pow_succ]; congr 1; omega
        rw [qx_half _ (by rw [e1, ← Nat.mul_assoc]; omega), e1, ← Nat.mul_assoc, Nat.mul_div_cancel _ (by omega)]
        have e2 : hOne = 2 ^ k * 2 ^ (128 - (k + 1)) := by unfold hOne; rw [← Nat.pow_add]; congr 1; omega
        have e3 : m / 2 ^ k < 2 := by rw [Nat.div_lt_iff_lt_mul (Nat.two_pow_pos _), Nat.mul_comm, ← Nat.pow_succ]; exact hm
        rw [e2, ← Nat.mul_assoc]
        have xm : ∀ a b j : Nat, (a ^^^ b) * 2 ^ j = a * 2 ^ j ^^^ b * 2 ^ j := by
          intro a b j
          apply Nat.eq_of_testBit_eq
          intro i
          rw [Nat.testBit_xor, Nat.testBit_mul_two_pow, Nat.testBit_mul_two_pow, Nat.testBit_mul_two_pow, Nat.testBit_xor]
          by_cases h : j ≤ i <;> simp [h]
        rw [← xm]
        congr 1
        rw [Nat.mul_comm (m / 2 ^ k), Nat.xor_comm, hjoin _ _ _ (Nat.mod_lt _ (Nat.two_pow_pos _))]
        exact (Nat.div_add_mod m (2 ^ k)).symm
      have b1 : (m % 2 ^ k) * 2 ^ (128 - k) < 2 ^ 128 := by
        have h2 : m % 2 ^ k < 2 ^ k := Nat.mod_lt _ (Nat.two_pow_pos _)
        have := Nat.mul_lt_mul_of_pos_right h2 (Nat.two_pow_pos (128 - k))
        rw [← Nat.pow_add, show k + (128 - k) = 128 from by omega] at this
        exact this
      have e3 : m / 2 ^ k < 2 := by rw [Nat.div_lt_iff_lt_mul (Nat.two_pow_pos _), Nat.mul_comm, ← Nat.pow_succ]; exact hm
      rw [e]
      refine hA _ _ (qx_lt b1) (hbit_lt e3 (by decide)) (hX _ b1 (ih _ (Nat.mod_lt _ (Nat.two_pow_pos _)) (by omega))) ?_
      obtain ⟨t, ht⟩ : ∃ t, t = m / 2 ^ k := ⟨_, rfl⟩
      rw [← ht] at e3 ⊢
      rcases (show t = 0 ∨ t = 1 by omega) with q | q
      · rw [q, Nat.zero_mul]; exact h0
      · rw [q, Nat.one_mul]; exact h1
  intro c hc
  have := key 128 c hc (Nat.le_refl _)
  simpa using this

theorem hmul_qx_l {p : Nat} (hp : p < 2 ^ 128) : ∀ q, q < 2 ^ 128 → hmul (qx p) q = qx (hmul p q) := by
  refine hind _ ?_ ?_ ?_ ?_
  · rw [hmul_zero, hmul_zero]; rfl
  · rw [hmul_one (qx_lt hp), hmul_one hp]
  · intro a ha h; rw [hmul_qx_r, hmul_qx_r, h]
  · intro a b ha hb h1 h2; rw [hmul_xor_r, hmul_xor_r, h1, h2, qx_xor]
theorem hmul_comm {p : Nat} (hp : p < 2 ^ 128) : ∀ q, q < 2 ^ 128 → hmul p q = hmul q p := by
  refine hind _ ?_ ?_ ?_ ?_
  · rw [hmul_zero, zero_hmul]
  · rw [hmul_one hp, one_hmul]
  · intro a ha h; rw [hmul_qx_r, hmul_qx_l ha _ hp, h]
  · intro a b ha hb h1 h2; rw [hmul_xor_r, hmul_xor_l, h1, h2]
theorem hmul_assoc {a b : Nat} (ha : a < 2 ^ 128) (hb : b < 2 ^ 128) : ∀ c, c < 2 ^ 128 → hmul (hmul a b) c = hmul a (hmul b c) := by
  refine hind _ ?_ ?_ ?_ ?_
  · rw [hmul_zero, hmul_zero, hmul_zero]
  · rw [hmul_one (hmul_lt _ hb), hmul_one hb]
  · intro c hc h; rw [hmul_qx_r, hmul_qx_r, hmul_qx_r, h]
  · intro c d hc hd h1 h2; rw [hmul_xor_r, hmul_xor_r, hmul_xor_r, h1, h2]

/- ONE POWER OF TWO AFTER ANOTHER. -/
def hsq (a : Nat) : Nat := hmul a a
def fr : Nat → Nat → Nat
  | 0, a => a
  | k + 1, a => hsq (fr k a)
theorem hsq_lt {a : Nat} (ha : a < 2 ^ 128) : hsq a < 2 ^ 128 := hmul_lt _ ha
theorem fr_lt {a : Nat} (ha : a < 2 ^ 128) : ∀ k, fr k a < 2 ^ 128
  | 0 => ha
  | k + 1 => hsq_lt (fr_lt ha k)
theorem hsq_xor {a b : Nat} (ha : a < 2 ^ 128) (hb : b < 2 ^ 128) : hsq (a ^^^ b) = hsq a ^^^ hsq b := by
  unfold hsq
  rw [hmul_xor_l, hmul_xor_r, hmul_xor_r, hmul_comm hb a ha]
  have : ∀ x y z : Nat, (x ^^^ y) ^^^ (y ^^^ z) = x ^^^ z := fun x y z => by
    rw [Nat.xor_assoc, ← Nat.xor_assoc y y z, Nat.xor_self, Nat.zero_xor]
  rw [this]
theorem hsq_mul {a b : Nat} (ha : a < 2 ^ 128) (hb : b < 2 ^ 128) : hsq (hmul a b) = hmul (hsq a) (hsq b) := by
  unfold hsq
  rw [hmul_assoc ha hb _ (hmul_lt _ hb), ← hmul_assoc hb ha b hb, hmul_comm hb a ha, hmul_assoc ha hb b hb, ← hmul_assoc ha ha _ (hmul_lt _ hb)]
theorem fr_xor {a b : Nat} (ha : a < 2 ^ 128) (hb : b < 2 ^ 128) : ∀ k, fr k (a ^^^ b) = fr k a ^^^ fr k b
  | 0 => rfl
  | k + 1 => by rw [fr, fr, fr, fr_xor ha hb k, hsq_xor (fr_lt ha k) (fr_lt hb k)]
theorem fr_mul {a b : Nat} (ha : a < 2 ^ 128) (hb : b < 2 ^ 128) : ∀ k, fr k (hmul a b) = hmul (fr k a) (fr k b)
  | 0 => rfl
  | k + 1 => by rw [fr, fr, fr, fr_mul ha hb k, hsq_mul (fr_lt ha k) (fr_lt hb k)]
theorem fr_zero : ∀ k, fr k 0 = 0
  | 0 => rfl
  | k + 1 => by rw [fr, fr_zero k]; exact hmul_zero 0
theorem fr_one : ∀ k, fr k hOne = hOne
  | 0 => rfl
  | k + 1 => by rw [fr, fr_one k]; exact one_hmul _
theorem fr_x : fr 128 (2 ^ 126) = 2 ^ 126 := by decide +kernel
theorem qx_as {a : Nat} (ha : a < 2 ^ 128) : qx a = hmul (2 ^ 126) a := by
  have := hmul_qx_l (p := hOne) (by decide) a ha
  rw [one_hmul] at this
  rw [← this]
  rfl
theorem fr_all : ∀ a, a < 2 ^ 128 → fr 128 a = a := by
  refine hind _ (fr_zero _) (fr_one _) ?_ ?_
  · intro a ha h; rw [qx_as ha, fr_mul (by decide) ha, fr_x, h]
  · intro a b ha hb h1 h2; rw [fr_xor ha hb, h1, h2]

/-- a to the power of 2^k - 1 -/
def prk (a : Nat) : Nat → Nat
  | 0 => hOne
  | k + 1 => hmul (prk a k) (fr k a)
theorem prk_lt {a : Nat} (ha : a < 2 ^ 128) : ∀ k, prk a k < 2 ^ 128
  | 0 => (by decide : hOne < 2 ^ 128)
  | k + 1 => hmul_lt _ (fr_lt ha k)
theorem mul_prk {a : Nat} (ha : a < 2 ^ 128) : ∀ k, hmul a (prk a k) = fr k a
  | 0 => hmul_one ha
  | k + 1 => by rw [prk, ← hmul_assoc ha (prk_lt ha k) _ (fr_lt ha k), mul_prk ha k]; rfl
theorem prk_divides {a : Nat} (ha : a < 2 ^ 128) : ∀ k, ∃ d, d < 2 ^ 128 ∧ prk a (k + 1) = hmul a d
  | 0 => ⟨hOne, by decide, by rw [prk, prk, one_hmul, hmul_one ha]; rfl⟩
  | k + 1 => by
    obtain ⟨d, hd, h⟩ := prk_divides ha k
    exact ⟨hmul d (fr (k + 1) a), hmul_lt _ (fr_lt ha _), by rw [prk, h, hmul_assoc ha hd _ (fr_lt ha _)]⟩

/- WHAT IS ITS OWN SQUARE IS 0 OR 1: by a linear map that takes e*e xor e back to e. -/
def hTab : List Nat := [0, 6161591008139076202154902373133594561, 71430717218983613641036104277415506289, 87518597585245962833849474628053070758, 72921817864677867521778898634038080609, 163309321578052146879237778733101511783, 126814247099887467207929949960147586332, 133487668004820722767044853458355047125, 108887185710678174598840578861931466132, 72978216601350599296199603180564021825, 126976600203468727039316187211004055892, 49689517519420395515082114066310337331, 12764899024296983899235621676887115841, 59792954277794326371429463258526948146, 275464514806027128612938827324864, 33882886127255646541338116557250298163, 133385434108064708788808215410435911893, 153238470225796905537047657204766862374, 127777348636302309636952298273557535380, 58594334107495617071392172125656399538, 5725366257701666555538562805218717057, 159324042485362592547018579093184240551, 149021274876537960721224429182834492454, 94333773739946854309780815578084996199, 161752945482599484730126084874801441767, 115575792119390728221592460023876181333, 133436244703473040169882794575366898389, 34751610155981195849944733847405496627, 100972845268357601278728964017462078439, 44935323831972008745566419208193456946, 132003651752985294974180122299820886164, 45594221442569777339127844318073854322, 100983558286137050684044238585428660711, 140308235276559149970208740923126577813, 92325303522414418149753570460923091879, 26944628100264108509229864938392397555, 81071795988965022717357904530596407232, 58275656592719279154056000246173111091, 51613027339492204128265575524803459891, 142140898696765075202304690604976981845, 53639910565545342273528145980335791795, 4726979706490419237355323591502507968, 161542955870533464563010084267448332775, 65334779303751560239471195525024588352, 122557457634345817322758110469731963540, 79569572988994598121356082874814992321, 9537274821874957483351388617584152641, 109427184872331881977228478262674814292, 96504253903287235160744645914913229863, 35809052500294759256374056413191545715, 63089105448741488643398279942380763954, 84108490886122099842324906724524496768, 161537358671016203777973217828391545831, 49921000058860506912943830473554996979, 113870918609522322281985099445019275925, 45994406431766860863727072382817147250, 6116654749483988959971426010360459777, 88394181539591460295416373139500891046, 93226277353508642900164249188457535015, 123506241354959402090274531190302866772, 72992884249465865451566362034747193217, 123492369307601207700488716387690115284, 67288019353279926038130604499846823936, 96617416833907240315124182200439430055, 6161591008139076220601646446843146177, 87518597585245962796955986480633967526, 163309321578052146805450802438263305319, 133487668004820722619470900868678634197, 72978216601350599591347508359916847681, 49689517519420396105377924425015989043, 59792954277794325190837842541115644722, 33882886127255648902521357992072905011, 153238470225796900814681174335121648678, 58594334107495626516125137864946826930, 159324042485362573657552647614603385767, 94333773739946892088712678535246705767, 115575792119390803779456185938199600469, 34751610155981346965672185676052334899, 44935323831971706514111515550899780402, 45594221442570381802037651632661207410, 140308235276560358896028355552301283989, 26944628100266526360869094196741809907, 58275656592714443450777541729474286387, 142140898696755403795747773571579332437, 4726979706471076424241489524707209152, 65334779303712874613243527391433990720, 79569572989071969373811419141996187585, 109427184872177139472317805728312423764, 35809052500604244266195401481916326771, 84108490886741069861967596861974058880, 49921000057622566873658450198655872755, 45994406429290980785156311833018898802, 88394181544543220452557894239097387942, 123506241345055881775991488991109872980, 123492369287794167071922631989304127700, 96617416873521321572256350997211405223, 87518597506017800282691648887090017190, 133487668163277047647999576055766534869, 49689517202507746048320574050840187699, 33882886761080949016636058740424507699, 58594332839845026287895736368243621554, 94333771204645691632253875541840295015, 34751615226583747878589791662865156403, 45594211301365579976202439659035564402, 26944648382676130012539518143993095923, 142140858131936196492406925677076760405, 65334698174074460006561831602428846656, 109427022612900310258954414150302135636, 84108166368187411435240813705953482624, 45993757392183663931702745520977746290, 123504943270841248069084356367027567956, 96614820725092054158442085749046795175, 133492860460135582475628106552095754965, 33893271354798018671893119733082947891, 94354540392079830942767997527157175399, 45552672926497301355174195688401803634, 142223934881672753734463413618344281941, 109593176112373424743067390032837178708, 46326064391129892899928697286047832434, 95950206727199596221990182218906622887, 32564043359013102798989312672802603315, 42894216934927469609366581567841114482, 114910088095513088234682618273958557012, 85316382760920269238759725736663866279, 64161864867486123575827494532326627698, 127851678626037577171681551665634892711, 42781086895802961305837899807692839847, 22349210433241643211303706255459310228]
def hlin : List Nat → Nat → Nat
  | [], _ => 0
  | l :: r, y => (y % 2) * l ^^^ hlin r (y / 2)
theorem hlin_xor : ∀ (l : List Nat) (x y : Nat), hlin l (x ^^^ y) = hlin l x ^^^ hlin l y
  | [], _, _ => (Nat.xor_self 0).symm
  | c :: r, x, y => by
    have e1 : (x ^^^ y) / 2 = x / 2 ^^^ y / 2 := Nat.xor_div_two_pow (n := 1)
    have e2 : (x ^^^ y) % 2 = x % 2 ^^^ y % 2 := Nat.xor_mod_two_pow (n := 1)
    simp only [hlin]
    rw [e1, e2, hbit_l (by omega) (by omega), hlin_xor r]
    ac_rfl
theorem bits_ind (p : Nat → Prop) (h0 : p 0) (hA : ∀ a b, a < 2 ^ 128 → b < 2 ^ 128 → p a → p b → p (a ^^^ b)) (hB : ∀ i, i < 128 → p (2 ^ i)) : ∀ k, k ≤ 128 → ∀ c, c < 2 ^ k → p c
  | 0, _, c, hc => by obtain rfl : c = 0 := by simpa using hc
                      exact h0
  | k + 1, hk, c, hc => by
    have h2 : c % 2 ^ k < 2 ^ k := Nat.mod_lt _ (Nat.two_pow_pos _)
    have ih := bits_ind p h0 hA hB k (by omega) _ h2
    have e3 : c / 2 ^ k < 2 := by rw [Nat.div_lt_iff_lt_mul (Nat.two_pow_pos _), Nat.mul_comm, ← Nat.pow_succ]; exact hc
    have hle : 2 ^ k < 2 ^ 128 := Nat.pow_lt_pow_right (by omega) (by omega)
    have h3 : c = 2 ^ k * (c / 2 ^ k) ^^^ c % 2 ^ k := by
      rw [hjoin _ _ _ h2]
      exact (Nat.div_add_mod c (2 ^ k)).symm
    rw [h3]
    have hb := hB k (by omega)
    generalize c / 2 ^ k = t at *
    match t, e3 with
    | 0, _ => rw [Nat.mul_zero, Nat.zero_xor]; exact ih
    | 1, _ => rw [Nat.mul_one]; exact hA _ _ hle (by omega) hb ih

theorem idem_tab : (List.range 128).all (fun i => hlin hTab (hsq (2 ^ i) ^^^ 2 ^ i) == 2 ^ i % 2 ^ 127) = true := by decide +kernel
theorem idem_lin : ∀ e, e < 2 ^ 128 → hlin hTab (hsq e ^^^ e) = e % 2 ^ 127 := by
  refine bits_ind _ (by decide +kernel) ?_ ?_ 128 (Nat.le_refl _)
  · intro a b ha hb h1 h2
    rw [hsq_xor ha hb, Nat.xor_mod_two_pow, ← h1, ← h2, ← hlin_xor]
    congr 1
    ac_rfl
  · intro i hi
    have := List.all_eq_true.1 idem_tab i (List.mem_range.2 hi)
    simpa using this
theorem hlin_zero : hlin hTab 0 = 0 := by decide +kernel
theorem idem {e : Nat} (he : e < 2 ^ 128) (h : hsq e = e) : e = 0 ∨ e = hOne := by
  have := idem_lin e he
  rw [h, Nat.xor_self, hlin_zero] at this
  unfold hOne
  omega

theorem hmul_eq_zero {a b : Nat} (ha : a < 2 ^ 128) (hb : b < 2 ^ 128) : hmul a b = 0 ↔ a = 0 ∨ b = 0 := by
  constructor
  · intro h
    have h1 : hmul a (prk a 128) = a := by rw [mul_prk ha, fr_all a ha]
    obtain ⟨d, hd, h2⟩ := prk_divides ha 127
    have he := prk_lt ha 128
    have hid : hsq (prk a 128) = prk a 128 := by
      unfold hsq
      have : hmul (hmul a d) (prk a 128) = hmul a d := by
        rw [hmul_assoc ha hd _ he, hmul_comm hd _ he, ← hmul_assoc ha he _ hd, h1]
      rw [← h2] at this
      exact this
    rcases idem he hid with e | e
    · left; rw [← h1, e, hmul_zero]
    · right
      have h3 : hmul a d = hOne := by rw [← h2, e]
      rw [← one_hmul b, ← h3, hmul_comm ha d hd, hmul_assoc hd ha b hb, h, hmul_zero]
  · rintro (rfl | rfl)
    · exact zero_hmul _
    · exact hmul_zero _

end Go.Proofs.YtffeekfofbcobaaGreat
