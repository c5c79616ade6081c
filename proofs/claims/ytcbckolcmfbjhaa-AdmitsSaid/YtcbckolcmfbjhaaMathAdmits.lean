/- The law Admits answers true at any config, numbers and operation: what is told of a sample is the document's, the config stays. No condition beyond the sizes that the row gives. -/
import Derived.Test.YtcbckolcmfbjhaaQAdmitsx13
namespace Go.Proofs.Ytcbckolcmfbjhaa.Pure
open Go.RowKit Go.Proofs.Ytcbckolcmfbjhaa.QAdmits Go.Proofs.YtcbckolcmfbjhaaW.PrintWords Go.Proofs.YtcbckolcmfbjhaaW.PrintLast Go.Proofs.YtcbckolcmfbjhaaW.PrintMore
set_option linter.unusedVariables false
set_option linter.unusedSimpArgs false

/-! ### base -/
theorem wf_i64 {a : Int} (h : (Lit.int .i64 a).wf = true) : -9223372036854775808 ≤ a ∧ a ≤ 9223372036854775807 := by
  simpa [Lit.wf, IntKind.min, IntKind.max, IntKind.signed, IntKind.bits] using h
theorem wrap64_id {n : Int} (h1 : -9223372036854775808 ≤ n) (h2 : n ≤ 9223372036854775807) : wrap64 n = n := by
  unfold wrap64; omega
theorem toNat_ofInt64 (a : Int) : ((BitVec.ofInt 64 a).toNat : Int) = a % 18446744073709551616 := by
  rw [BitVec.toNat_ofInt]
  have h : (0 : Int) ≤ a % ((2 ^ 64 : Nat) : Int) := Int.emod_nonneg _ (by decide)
  rw [Int.toNat_of_nonneg h]; rfl
theorem wrap_i64_nat (n : Nat) (h : n < 9223372036854775808) : IntKind.i64.wrap (n : Int) = (n : Int) := by
  rw [IntKind.wrap_i64]; omega
theorem and_mask (a : Int) (j : Nat) (hj : j ≤ 63) : Go.bits .and .i64 a (2 ^ j - 1) = a % 2 ^ j := by
  have hp : 2 ^ j ≤ 2 ^ 63 := Nat.pow_le_pow_right (by decide) hj
  have hpos : 0 < 2 ^ j := Nat.two_pow_pos j
  have hc : ((2 : Int) ^ j - 1) = ((2 ^ j - 1 : Nat) : Int) := by
    rw [Int.natCast_sub hpos]; simp
  have hd : (2 : Int) ^ j ∣ 18446744073709551616 := ⟨2 ^ (64 - j), by rw [← Int.pow_add]; rw [show j + (64 - j) = 64 by omega]; rfl⟩
  show IntKind.i64.wrap (((BitVec.ofInt 64 a &&& BitVec.ofInt 64 (2 ^ j - 1)).toNat : Nat) : Int) = _
  rw [BitVec.toNat_and, hc, BitVec.ofInt_natCast, BitVec.toNat_ofNat, Nat.mod_eq_of_lt (Nat.lt_of_lt_of_le (Nat.sub_lt hpos (by decide)) (Nat.le_trans hp (by decide))), Nat.and_two_pow_sub_one_eq_mod]
  rw [wrap_i64_nat _ (Nat.lt_of_lt_of_le (Nat.mod_lt _ hpos) hp), Int.natCast_emod, toNat_ofInt64, Int.natCast_pow]
  exact Int.emod_emod_of_dvd a hd
theorem and_m (a : Int) (j : Nat) (m p : Int) (hj : j ≤ 63) (hp : (2 : Int) ^ j = p) (hm : m = p - 1) : Go.bits .and .i64 a m = a % p := by
  subst hm; rw [← hp]; exact and_mask a j hj

/-! ### adm14 -/
theorem oMay_iff14 {a0 a1 a2 a3 a4 : Int} : oMay a0 a1 a2 a3 a4 = true ↔ (a0 = 0 ∧ 0 ≤ a1 ∧ a1 < 8 ∧ 0 ≤ a2 ∧ a2 ≤ 1048575 ∧ -1099511627776 ≤ a3 ∧ a3 ≤ 1099511627776 ∧ -1099511627776 ≤ a4 ∧ a4 ≤ 1099511627776) ∨ (a0 = 1 ∧ 0 ≤ a1 ∧ a1 < 8 ∧ -4398046511104 < a3 ∧ a3 ≤ 4398046511104 ∧ a2 = 0 ∧ a4 = 0) ∨ (a0 = 2 ∧ a1 = 0 ∧ a2 = 0 ∧ a3 = 0 ∧ a4 = 0) := by
  unfold oMay srcMay markMay sampMay
  by_cases c : a0 = 0
  · rw [if_pos c, decide_eq_true_eq]; omega
  · rw [if_neg c]
    by_cases c1 : a0 = 1
    · rw [if_pos c1]; simp only [Bool.and_eq_true, decide_eq_true_eq, beq_iff_eq]; omega
    · rw [if_neg c1]; simp only [Bool.and_eq_true, beq_iff_eq]; omega
theorem num14 (a : Int) : bournelaw0_Num.f a = some a := rfl
/-- What is told of a sample: by whether the config may be, and the numbers. -/
def vM (mc : Bool) (late room series sources least held known : Int) (has : Bool) (a0 a1 a2 a3 a4 : Int) : Int × Int :=
  if mc = true ∧ (-4398046511104 ≤ least ∧ least ≤ 4398046511104 ∧ 0 ≤ held ∧ 0 ≤ known) then
    (if a0 = 0 ∧ oMay a0 a1 a2 a3 a4 = true ∧ a1 < sources then
      (if a3 < least - late then (1, 0) else if has = false ∧ series ≤ known then (3, 0) else if room ≤ held then (2, 0) else (0, 0))
     else (4, 0))
  else (0, 1400)
theorem cMay_in {l : List S42} {late room series sources : Int} (h : cMay l late room series sources = true) : 0 ≤ late ∧ late ≤ 1073741824 ∧ 1 ≤ room ∧ room ≤ 4096 ∧ 1 ≤ series ∧ series ≤ 64 ∧ 1 ≤ sources ∧ sources ≤ 8 := by
  unfold cMay at h
  simp only [Bool.and_eq_true, decide_eq_true_eq] at h
  exact h.2
theorem least_eq (a : Int) : admit_LeastMay.f a = some (decide (-4398046511104 ≤ a ∧ a ≤ 4398046511104)) := by
  unfold admit_LeastMay.f
  by_cases c : a ≥ (-4398046511104)
  · rw [if_pos c]; exact congrArg some (decide_eq_decide.2 (by omega))
  · rw [if_neg c, decide_eq_false (by omega)]
theorem verdict_j2 (k : Nat) (held : Int) (b : Bool) (l : List S42) (late room series sources : Int) : admit_Verdict.j2 (k + 1) held b l late room series sources = some (if b = true then (3, 0) else if room ≤ held then (2, 0) else (0, 0)) := by
  simp only [admit_Verdict.j2]
  cases b with
  | true => rfl
  | false =>
    simp only [Bool.false_eq_true, reduceIte]
    by_cases c : held ≥ room
    · rw [if_pos c, if_pos (show room ≤ held by omega)]
    · rw [if_neg c, if_neg (show ¬ room ≤ held by omega)]
theorem verdict_j1 (k : Nat) (least held known : Int) (has b : Bool) (l : List S42) (late room series sources a0 a1 a2 a3 a4 : Int) (h1 : -4398046511104 ≤ least) (h2 : least ≤ 4398046511104) (h3 : 0 ≤ late) (h4 : late ≤ 1073741824) :
    admit_Verdict.j1 (k + 2) least held known has b l late room series sources a0 a1 a2 a3 a4 = some (if b = true then (4, 0) else if a3 < least - late then (1, 0) else if has = false ∧ series ≤ known then (3, 0) else if room ≤ held then (2, 0) else (0, 0)) := by
  simp only [admit_Verdict.j1]
  cases b with
  | true => rfl
  | false =>
    simp only [Bool.false_eq_true, reduceIte]
    rw [wrap64_id (n := least - late) (by omega) (by omega)]
    by_cases c : a3 < least - late
    · rw [if_pos c, if_pos c]
    · rw [if_neg c, if_neg c]
      cases has with
      | true =>
        simp only [reduceIte, Bool.true_eq_false, false_and]
        rw [verdict_j2]
        simp only [Bool.false_eq_true, reduceIte]
      | false =>
        simp only [reduceIte, Bool.false_eq_true, true_and]
        rw [verdict_j2]
        by_cases c1 : series ≤ known
        · rw [if_pos (decide_eq_true c1), if_pos c1]
        · rw [if_neg (by rw [decide_eq_true_eq]; exact c1), if_neg c1]
theorem verdict_eq (k : Nat) (l : List S42) (late room series sources least held known : Int) (has : Bool) (a0 a1 a2 a3 a4 : Int) :
    admit_Verdict.f (k + 3) l late room series sources least held known has a0 a1 a2 a3 a4 = some (vM (cMay l late room series sources) late room series sources least held known has a0 a1 a2 a3 a4) := by
  have no : admit_Verdict.j0 (k + 3) least held known has true l late room series sources a0 a1 a2 a3 a4 = some (0, 1400) := by
    simp only [admit_Verdict.j0]; rfl
  unfold admit_Verdict.f vM
  rw [show admit_May.f l late room series sources = some (cMay l late room series sources) from rfl, Option.bind_some]
  cases hc : cMay l late room series sources with
  | false => rw [if_neg (by decide), no, if_neg (fun h => by cases h.1)]
  | true =>
    have hin := cMay_in hc
    rw [if_pos rfl, least_eq, Option.bind_some]
    by_cases c : -4398046511104 ≤ least ∧ least ≤ 4398046511104
    · rw [if_pos (decide_eq_true c)]
      by_cases c1 : held < 0
      · rw [if_pos c1, no, if_neg (fun h => by omega)]
      · rw [if_neg c1]
        by_cases c2 : known < 0
        · rw [decide_eq_true c2, no, if_neg (fun h => by omega)]
        · rw [decide_eq_false c2, if_pos ⟨rfl, by omega⟩]
          have j1 : ∀ b, admit_Verdict.j1 (k + 2) least held known has b l late room series sources a0 a1 a2 a3 a4 = _ := fun b => verdict_j1 k least held known has b l late room series sources a0 a1 a2 a3 a4 c.1 c.2 hin.1 hin.2.1
          generalize (if a3 < least - late then ((1 : Int), (0 : Int)) else if has = false ∧ series ≤ known then (3, 0) else if room ≤ held then (2, 0) else (0, 0)) = E at *
          simp only [admit_Verdict.j0]
          simp only [Bool.false_eq_true, reduceIte]
          by_cases d0 : a0 = 0
          · rw [if_pos d0, show wire_May.f a0 a1 a2 a3 a4 = some (oMay a0 a1 a2 a3 a4) from rfl, Option.bind_some]
            by_cases d1 : oMay a0 a1 a2 a3 a4 = true
            · rw [if_pos d1, j1]
              by_cases d2 : a1 < sources
              · rw [decide_eq_false (show ¬ a1 ≥ sources by omega), if_pos (show a0 = 0 ∧ oMay a0 a1 a2 a3 a4 = true ∧ a1 < sources from ⟨d0, d1, d2⟩)]; rfl
              · rw [decide_eq_true (show a1 ≥ sources by omega), if_pos rfl, if_neg (fun h => d2 h.2.2)]
            · rw [if_neg d1, j1, if_pos rfl, if_neg (fun h => d1 h.2.1)]
          · rw [if_neg d0, j1, if_pos rfl, if_neg (fun h => d0 h.1)]
    · rw [decide_eq_false c, if_neg (by decide), no, if_neg (fun h => c ⟨h.2.1, h.2.2.1⟩)]
theorem aMay14 : aMay 0 [] 0 = true := by kernel_rfl
theorem q_tum14 (m : Int) (h1 : 1 ≤ m) (h2 : m ≤ 1073741824) : qMay 0 0 m 0 [] 0 = true := by
  unfold qMay
  rw [aMay14, decide_eq_true ⟨h1, h2⟩, if_neg (by omega)]
  rfl
theorem c_one (m late room series sources : Int) (h1 : 1 ≤ m) (h2 : m ≤ 1073741824) (h : 0 ≤ late ∧ late ≤ 1073741824 ∧ 1 ≤ room ∧ room ≤ 4096 ∧ 1 ≤ series ∧ series ≤ 64 ∧ 1 ≤ sources ∧ sources ≤ 8) : cMay [(⟨0, 0, m, 0, ([] : List Int), 0⟩ : S42)] late room series sources = true := by
  unfold cMay allQ qB
  rw [decide_eq_true h, List.all_cons, List.all_nil]
  dsimp only
  rw [q_tum14 m h1 h2]; rfl
theorem c_good : cMay [(⟨0, 0, 10, 0, ([] : List Int), 0⟩ : S42)] 5 3 2 1 = true := c_one 10 5 3 2 1 (by omega) (by omega) (by omega)
theorem c_none : cMay ([] : List S42) 0 0 0 0 = false := by unfold cMay; rfl
theorem vM_ok (late room series sources least held known : Int) (has : Bool) (a0 a1 a2 a3 a4 : Int) (h : -4398046511104 ≤ least ∧ least ≤ 4398046511104 ∧ 0 ≤ held ∧ 0 ≤ known) (ho : a0 = 0 ∧ oMay a0 a1 a2 a3 a4 = true ∧ a1 < sources) :
    vM true late room series sources least held known has a0 a1 a2 a3 a4 = if a3 < least - late then (1, 0) else if has = false ∧ series ≤ known then (3, 0) else if room ≤ held then (2, 0) else (0, 0) := by
  unfold vM; rw [if_pos ⟨rfl, h⟩, if_pos ho]
theorem vM_form (late room series sources least held known : Int) (has : Bool) (a0 a1 a2 a3 a4 : Int) (h : -4398046511104 ≤ least ∧ least ≤ 4398046511104 ∧ 0 ≤ held ∧ 0 ≤ known) (ho : ¬ (a0 = 0 ∧ oMay a0 a1 a2 a3 a4 = true ∧ a1 < sources)) :
    vM true late room series sources least held known has a0 a1 a2 a3 a4 = (4, 0) := by
  unfold vM; rw [if_pos ⟨rfl, h⟩, if_neg ho]
theorem awake14 (k : Nat) : bournelaw14_awake.f (k + 3) = some true := by
  have s (a1 a2 a3 a4 : Int) (h : 0 ≤ a1 ∧ a1 < 8 ∧ 0 ≤ a2 ∧ a2 ≤ 1048575 ∧ -1099511627776 ≤ a3 ∧ a3 ≤ 1099511627776 ∧ -1099511627776 ≤ a4 ∧ a4 ≤ 1099511627776) : oMay 0 a1 a2 a3 a4 = true := oMay_iff14.2 (.inl ⟨rfl, h⟩)
  have v1 : vM true 5 3 2 1 10 2 1 false 0 0 0 5 0 = (0, 0) := by rw [vM_ok _ _ _ _ _ _ _ _ _ _ _ _ _ (by omega) ⟨rfl, s _ _ _ _ (by omega), by omega⟩]; decide
  have v2 : vM true 5 3 2 1 10 2 1 false 0 0 0 4 0 = (1, 0) := by rw [vM_ok _ _ _ _ _ _ _ _ _ _ _ _ _ (by omega) ⟨rfl, s _ _ _ _ (by omega), by omega⟩]; decide
  have v3 : vM true 5 3 2 1 10 3 1 true 0 0 0 5 0 = (2, 0) := by rw [vM_ok _ _ _ _ _ _ _ _ _ _ _ _ _ (by omega) ⟨rfl, s _ _ _ _ (by omega), by omega⟩]; decide
  have v4 : vM true 5 3 2 1 10 2 2 false 0 0 0 5 0 = (3, 0) := by rw [vM_ok _ _ _ _ _ _ _ _ _ _ _ _ _ (by omega) ⟨rfl, s _ _ _ _ (by omega), by omega⟩]; decide
  have v5 : vM true 5 3 2 1 10 2 2 false 0 1 0 5 0 = (4, 0) := vM_form _ _ _ _ _ _ _ _ _ _ _ _ _ (by omega) (by omega)
  have v6 : vM true 5 3 2 1 10 (-1) 2 false 0 0 0 5 0 = (0, 1400) := by unfold vM; rw [if_neg (by omega)]
  unfold bournelaw14_awake.f bournelaw14_count.f
  rw [Option.bind_some]
  dsimp only
  simp only [verdict_eq, c_good, v1, v2, v3, v4, v5, v6, Option.bind_some, show ∀ l a b c d, admit_May.f l a b c d = some (cMay l a b c d) from fun _ _ _ _ _ => rfl, c_none, num14, if_true, Bool.false_eq_true, if_false]
  rfl

/-! ### ropmay14 -/
theorem rwithin14 (t : Int) : bourneref1_within.f t 1099511627776 = some (decide (-1099511627776 ≤ t ∧ t ≤ 1099511627776)) := by
  unfold bourneref1_within.f
  rw [wrap64_id (n := -1099511627776) (by omega) (by omega)]
  by_cases c : t ≥ -1099511627776
  · rw [if_pos c]; exact congrArg some (decide_eq_decide.2 (by omega))
  · rw [if_neg c, decide_eq_false (by omega)]
theorem ropMay14 (k : Nat) (a0 a1 a2 a3 a4 : Int) : bourneref1_OpMay.f (k + 1) a0 a1 a2 a3 a4 = some (oMay a0 a1 a2 a3 a4) := by
  have key : ∀ b : Bool, (b = true ↔ (a0 = 0 ∧ 0 ≤ a1 ∧ a1 < 8 ∧ 0 ≤ a2 ∧ a2 ≤ 1048575 ∧ -1099511627776 ≤ a3 ∧ a3 ≤ 1099511627776 ∧ -1099511627776 ≤ a4 ∧ a4 ≤ 1099511627776) ∨ (a0 = 1 ∧ 0 ≤ a1 ∧ a1 < 8 ∧ -4398046511104 < a3 ∧ a3 ≤ 4398046511104 ∧ a2 = 0 ∧ a4 = 0) ∨ (a0 = 2 ∧ a1 = 0 ∧ a2 = 0 ∧ a3 = 0 ∧ a4 = 0)) → some b = some (oMay a0 a1 a2 a3 a4) :=
    fun b hb => congrArg some (Bool.eq_iff_iff.2 (hb.trans oMay_iff14.symm))
  have fin : ∀ x3 : Bool, (x3 = true ↔ (0 ≤ a1 ∧ a1 < 8)) → bourneref1_OpMay.j0 (k + 1) x3 a0 a1 a2 a3 a4 = some (oMay a0 a1 a2 a3 a4) := by
    intro x3 h3
    simp only [bourneref1_OpMay.j0]
    by_cases c0 : a0 = 0
    · rw [if_pos c0]
      by_cases c3 : x3 = true
      · have h4 := h3.1 c3
        rw [if_pos c3]
        by_cases c4 : a2 ≥ 0
        · rw [if_pos c4]
          by_cases c5 : a2 ≤ 1048575
          · rw [if_pos c5, rwithin14, Option.bind_some]
            by_cases c6 : -1099511627776 ≤ a3 ∧ a3 ≤ 1099511627776
            · rw [if_pos (decide_eq_true c6), rwithin14, Option.bind_some]; exact key _ (by rw [decide_eq_true_eq]; omega)
            · rw [decide_eq_false c6, if_neg (by decide)]; exact key _ ⟨fun h => (by cases h), fun h => by omega⟩
          · rw [if_neg c5]; exact key _ ⟨fun h => (by cases h), fun h => by omega⟩
        · rw [if_neg c4]; exact key _ ⟨fun h => (by cases h), fun h => by omega⟩
      · rw [if_neg c3]; exact key _ ⟨fun h => (by cases h), fun h => absurd (h3.2 (by omega)) c3⟩
    · rw [if_neg c0]
      by_cases c1 : a0 = 1
      · rw [if_pos c1]
        by_cases c3 : x3 = true
        · have h4 := h3.1 c3
          rw [if_pos c3]
          by_cases c4 : a2 = 0
          · rw [if_pos c4]
            by_cases c5 : a3 > -4398046511104
            · rw [if_pos c5]
              by_cases c6 : a3 ≤ 4398046511104
              · rw [if_pos c6]; exact key _ (by rw [beq_iff_eq]; omega)
              · rw [if_neg c6]; exact key _ ⟨fun h => (by cases h), fun h => by omega⟩
            · rw [if_neg c5]; exact key _ ⟨fun h => (by cases h), fun h => by omega⟩
          · rw [if_neg c4]; exact key _ ⟨fun h => (by cases h), fun h => by omega⟩
        · rw [if_neg c3]; exact key _ ⟨fun h => (by cases h), fun h => absurd (h3.2 (by omega)) c3⟩
      · rw [if_neg c1]
        by_cases c2 : a0 = 2
        · rw [if_pos c2]; exact key _ (by simp only [Bool.and_eq_true, beq_iff_eq]; omega)
        · rw [if_neg c2]; exact key _ ⟨fun h => (by cases h), fun h => by omega⟩
  unfold bourneref1_OpMay.f
  by_cases c : a1 ≥ 0
  · rw [if_pos c]; exact fin _ (by rw [decide_eq_true_eq]; omega)
  · rw [if_neg c]; exact fin _ ⟨fun h => (by cases h), fun h => by omega⟩

/-! ### rq14 -/
theorem rgcd_l0 (n : Nat) : ∀ (a b : Nat), b ≤ n → ∀ k, n < k → bourneref1_Gcd.l0 k (a : Int) (b : Int) = some (((Nat.gcd a b : Nat) : Int), 0) := by
  induction n with
  | zero =>
    intro a b hb k hk
    obtain ⟨k, rfl⟩ : ∃ m, k = m + 1 := ⟨k - 1, by omega⟩
    obtain rfl : b = 0 := by omega
    simp only [bourneref1_Gcd.l0]; rw [if_neg (by omega), Nat.gcd_zero_right]
  | succ n ih =>
    intro a b hb k hk
    obtain ⟨k, rfl⟩ : ∃ m, k = m + 1 := ⟨k - 1, by omega⟩
    by_cases h : b = 0
    · subst h
      simp only [bourneref1_Gcd.l0]; rw [if_neg (by omega), Nat.gcd_zero_right]
    · simp only [bourneref1_Gcd.l0]; rw [if_pos (by omega), if_neg (by omega), ← Int.ofNat_tmod]
      have hlt := Nat.mod_lt a (show b > 0 by omega)
      rw [ih b (a % b) (by omega) k (by omega)]
      congr 3
      rw [Nat.gcd_comm b (a % b), ← Nat.gcd_rec, Nat.gcd_comm]
theorem rgcd_eq {a b : Int} (ha : 1 ≤ a) (hb : 1 ≤ b) (k : Nat) (hk : b.toNat + 2 ≤ k) : bourneref1_Gcd.f k a b = some (((Nat.gcd a.toNat b.toNat : Nat) : Int), 0) := by
  unfold bourneref1_Gcd.f
  obtain ⟨k, rfl⟩ : ∃ m, k = m + 1 := ⟨k - 1, by omega⟩
  rw [if_neg (by omega), decide_eq_false (by omega)]
  simp only [bourneref1_Gcd.j0]
  have h := rgcd_l0 b.toNat a.toNat b.toNat (Nat.le_refl _) k (by omega)
  rw [Int.toNat_of_nonneg (by omega), Int.toNat_of_nonneg (by omega)] at h
  simpa using h
theorem ceil_div (m k : Int) (hk : 1 ≤ k) : (m + k - 1) / k = (m - 1) / k + 1 := by
  have := Int.add_mul_ediv_right (m - 1) 1 (show k ≠ 0 by omega)
  rw [← this]; congr 1; omega
theorem rq_eq (kind agg size slide : Int) (bs : List Int) (rank : Int) (k : Nat) (hk : 1073741840 ≤ k) : bourneref1_QueryMay.f k kind agg size slide bs rank = some (qMay kind agg size slide bs rank) := by
  unfold bourneref1_QueryMay.f bourneref1_aggMay.f qMay
  rw [Option.bind_some]
  obtain ⟨k, rfl⟩ : ∃ m, k = m + 2 := ⟨k - 2, by omega⟩
  cases aMay agg bs rank with
  | false => rw [if_neg (by decide)]; simp only [bourneref1_QueryMay.j0]; rw [if_pos True.intro, Bool.false_and, Bool.and_false]
  | true =>
    rw [if_pos rfl, Bool.true_and]
    by_cases c1 : size < 1
    · rw [if_pos c1, decide_eq_false (show ¬ (1 ≤ size ∧ size ≤ 1073741824) by omega), Bool.false_and]; simp only [bourneref1_QueryMay.j0]; rw [if_pos True.intro]
    · rw [if_neg c1]
      by_cases c2 : size > 1073741824
      · rw [decide_eq_true c2, decide_eq_false (show ¬ (1 ≤ size ∧ size ≤ 1073741824) by omega), Bool.false_and]; simp only [bourneref1_QueryMay.j0]; rw [if_pos True.intro]
      · rw [decide_eq_false c2, decide_eq_true (show 1 ≤ size ∧ size ≤ 1073741824 by omega), Bool.true_and]
        simp only [bourneref1_QueryMay.j0]
        rw [if_neg (by decide)]
        by_cases k0 : kind = 0
        · subst k0
          rw [if_pos rfl, if_neg (by omega)]
          simp only [bourneref1_QueryMay.j1]
          rw [if_pos (by rfl)]
          congr 1
          by_cases z : slide = 0 <;> simp [z]
        · rw [if_neg k0]
          simp only [bourneref1_QueryMay.j1]
          by_cases k2 : kind = 2
          · subst k2
            rw [if_pos (by rfl), if_neg (by omega)]
            congr 1
            by_cases z : slide = 0 <;> simp [z]
          · rw [if_neg (by simpa using k2)]
            by_cases k1 : kind = 1
            · subst k1
              rw [if_pos rfl, if_pos rfl]
              unfold sMay
              by_cases s1 : slide < 1
              · rw [if_pos s1, decide_eq_false (by omega)]
              · rw [if_neg s1]
                by_cases s2 : slide > size
                · rw [if_pos s2, decide_eq_false (by omega)]
                · rw [if_neg s2, rgcd_eq (by omega) (by omega) k (by omega), Option.bind_some, if_neg (by omega)]
                  have hd := Int.ediv_nonneg (show 0 ≤ size - 1 by omega) (show 0 ≤ slide by omega)
                  have hd2 := Int.ediv_le_self slide (show 0 ≤ size - 1 by omega)
                  have hc := ceil_div size slide (by omega)
                  have e1 : wrap64 (Int.tdiv (wrap64 ((wrap64 (size + slide)) - 1)) slide) = (size - 1) / slide + 1 := by
                    rw [w64_id (n := size + slide) (by omega) (by omega), w64_id (n := size + slide - 1) (by omega) (by omega), Int.tdiv_eq_ediv_of_nonneg (by omega), hc, w64_id (by omega) (by omega)]
                  rw [e1]
                  have hg := gcd_pos (b := slide) (show 1 ≤ size by omega)
                  dsimp only
                  generalize ((Nat.gcd size.toNat slide.toNat : Nat) : Int) = g at *
                  have hd3 := Int.ediv_nonneg (show 0 ≤ size by omega) (show 0 ≤ g by omega)
                  have hd4 := Int.ediv_le_self g (show 0 ≤ size by omega)
                  by_cases c3 : (size - 1) / slide + 1 ≤ 64
                  · rw [if_pos c3, if_neg (by omega), Int.tdiv_eq_ediv_of_nonneg (by omega), w64_id (by omega) (by omega)]
                    congr 1
                    exact decide_eq_decide.2 (by omega)
                  · rw [if_neg c3, decide_eq_false (by omega)]
            · rw [if_neg k1, if_neg k1, decide_eq_false (by omega)]

theorem rd42 (l : List S42) (i : Nat) (h : i < l.length) : rd_T42 l (i : Int) = l[i] := by
  unfold rd_T42
  rw [Int.toNat_natCast, List.getD_eq_getElem?_getD, List.getElem?_eq_getElem h]; rfl
theorem up14 (i : Nat) (h : i ≤ 4611686018427387904) : wrap64 ((i : Int) + 1) = ((i + 1 : Nat) : Int) := by rw [wrap64_id (by omega) (by omega)]; omega
theorem copy_l0 (l : List S42) (hl : l.length * 64 ≤ 140737488351232) (hb : ∀ q ∈ l, q.f4.length * 8 ≤ 140737488351232) (a b c e : Int) (d : Nat) : ∀ (i k : Nat), l.length - i = d → i ≤ l.length → d < k → bournelaw0_CopyConfig.l0 k l (i : Int) (l.take i) a b c e = some (l, a, b, c, e) := by
  induction d with
  | zero =>
    intro i k hd hi hk
    obtain ⟨k, rfl⟩ : ∃ m, k = m + 1 := ⟨k - 1, by omega⟩
    simp only [bournelaw0_CopyConfig.l0]
    rw [if_neg (by omega), List.take_of_length_le (by omega)]
  | succ d ih =>
    intro i k hd hi hk
    obtain ⟨k, rfl⟩ : ∃ m, k = m + 1 := ⟨k - 1, by omega⟩
    have hlt : i < l.length := by omega
    have hm := hb l[i] (List.getElem_mem hlt)
    simp only [bournelaw0_CopyConfig.l0]
    rw [if_pos (by omega), if_pos (by omega), rd42 l i hlt, Option.bind_some, if_pos (by simp only [List.length_nil]; omega), if_pos (by rw [List.length_take]; omega), List.nil_append, up14 i (by omega)]
    have e1 : (⟨l[i].f0, l[i].f1, l[i].f2, l[i].f3, l[i].f4, l[i].f5⟩ : S42) = l[i] := rfl
    rw [e1, ← List.take_succ_eq_append_getElem hlt]
    exact ih (i + 1) k (by omega) (by omega) (by omega)
theorem rcfg_fin (k : Nat) (l : List S42) (late room series sources : Int) : bourneref1_ConfigMay.l0 (k + 1) (l.length : Int) l late room series sources = some (decide (1 ≤ l.length ∧ l.length ≤ 8) && decide (0 ≤ late ∧ late ≤ 1073741824 ∧ 1 ≤ room ∧ room ≤ 4096 ∧ 1 ≤ series ∧ series ≤ 64 ∧ 1 ≤ sources ∧ sources ≤ 8)) := by
  have no : ∀ p q : Prop, [Decidable p] → [Decidable q] → ¬ (p ∧ q) → some false = some (decide p && decide q) := by
    intro p q _ _ h
    by_cases hp : p
    · rw [decide_eq_false (fun hq => h ⟨hp, hq⟩), Bool.and_false]
    · rw [decide_eq_false hp, Bool.false_and]
  simp only [bourneref1_ConfigMay.l0]
  rw [if_neg (by omega)]
  by_cases c1 : (l.length : Int) ≥ 1
  · rw [if_pos c1]
    by_cases c2 : (l.length : Int) ≤ 8
    · rw [if_pos c2]
      by_cases c3 : late ≥ 0
      · rw [if_pos c3]
        by_cases c4 : late ≤ 1073741824
        · rw [if_pos c4]
          by_cases c5 : room ≥ 1
          · rw [if_pos c5]
            by_cases c6 : room ≤ 4096
            · rw [if_pos c6]
              by_cases c7 : series ≥ 1
              · rw [if_pos c7]
                by_cases c8 : series ≤ 64
                · rw [if_pos c8]
                  by_cases c9 : sources ≥ 1
                  · rw [if_pos c9, decide_eq_true (show 1 ≤ l.length ∧ l.length ≤ 8 by omega), Bool.true_and]
                    exact congrArg some (decide_eq_decide.2 (by omega))
                  · rw [if_neg c9]; exact no _ _ (by omega)
                · rw [if_neg c8]; exact no _ _ (by omega)
              · rw [if_neg c7]; exact no _ _ (by omega)
            · rw [if_neg c6]; exact no _ _ (by omega)
          · rw [if_neg c5]; exact no _ _ (by omega)
        · rw [if_neg c4]; exact no _ _ (by omega)
      · rw [if_neg c3]; exact no _ _ (by omega)
    · rw [if_neg c2]; exact no _ _ (by omega)
  · rw [if_neg c1]; exact no _ _ (by omega)
theorem rcfg_l0 (l : List S42) (hl : l.length ≤ 4611686018427387904) (late room series sources : Int) (d : Nat) : ∀ (i k : Nat), l.length - i = d → i ≤ l.length → d + 1073741850 ≤ k →
    bourneref1_ConfigMay.l0 k (i : Int) l late room series sources = some ((l.drop i).all qB && (decide (1 ≤ l.length ∧ l.length ≤ 8) && decide (0 ≤ late ∧ late ≤ 1073741824 ∧ 1 ≤ room ∧ room ≤ 4096 ∧ 1 ≤ series ∧ series ≤ 64 ∧ 1 ≤ sources ∧ sources ≤ 8))) := by
  induction d with
  | zero =>
    intro i k hd hi hk
    obtain ⟨k, rfl⟩ : ∃ m, k = m + 1 := ⟨k - 1, by omega⟩
    obtain rfl : i = l.length := by omega
    rw [rcfg_fin, List.drop_eq_nil_of_le (Nat.le_refl _), List.all_nil, Bool.true_and]
  | succ d ih =>
    intro i k hd hi hk
    obtain ⟨k, rfl⟩ : ∃ m, k = m + 1 := ⟨k - 1, by omega⟩
    have hlt : i < l.length := by omega
    have ih2 := ih (i + 1) k (by omega) (by omega) (by omega)
    rw [List.drop_eq_getElem_cons hlt, List.all_cons]
    simp only [bourneref1_ConfigMay.l0]
    rw [if_pos (by omega), if_pos (by omega), rd42 l i hlt, rq_eq _ _ _ _ _ _ k (by omega), Option.bind_some, up14 i (by omega), ih2]
    show (if qB l[i] = true then _ else _) = _
    cases qB l[i] with
    | true => rw [if_pos rfl, Bool.true_and]
    | false => rw [if_neg (by decide), Bool.false_and, Bool.false_and]
theorem rcfg_eq (k : Nat) (l : List S42) (hl : l.length ≤ 4611686018427387904) (late room series sources : Int) (hk : l.length + 1073741850 ≤ k) : bourneref1_ConfigMay.f k l late room series sources = some (cMay l late room series sources) := by
  unfold bourneref1_ConfigMay.f cMay
  have := rcfg_l0 l hl late room series sources l.length 0 k rfl (Nat.zero_le _) hk
  rw [List.drop_zero] at this
  rw [show ((0 : Nat) : Int) = 0 from rfl] at this
  rw [this]
  unfold allQ
  rw [← Bool.and_assoc, Bool.and_comm (l.all qB)]
theorem rverdict_j2 (k : Nat) (held : Int) (b : Bool) (l : List S42) (late room series sources : Int) : bourneref1_Verdict.j2 (k + 1) held b l late room series sources = some (if b = true then (3, 0) else if room ≤ held then (2, 0) else (0, 0)) := by
  simp only [bourneref1_Verdict.j2]
  cases b with
  | true => rfl
  | false =>
    simp only [Bool.false_eq_true, reduceIte]
    by_cases c : held ≥ room
    · rw [if_pos c, if_pos (show room ≤ held by omega)]
    · rw [if_neg c, if_neg (show ¬ room ≤ held by omega)]
theorem rverdict_j1 (k : Nat) (least held known : Int) (has b : Bool) (l : List S42) (late room series sources a0 a1 a2 a3 a4 : Int) (h1 : -4398046511104 ≤ least) (h2 : least ≤ 4398046511104) (h3 : 0 ≤ late) (h4 : late ≤ 1073741824) :
    bourneref1_Verdict.j1 (k + 2) least held known has b l late room series sources a0 a1 a2 a3 a4 = some (if b = true then (4, 0) else if a3 < least - late then (1, 0) else if has = false ∧ series ≤ known then (3, 0) else if room ≤ held then (2, 0) else (0, 0)) := by
  simp only [bourneref1_Verdict.j1]
  cases b with
  | true => rfl
  | false =>
    simp only [Bool.false_eq_true, reduceIte]
    rw [wrap64_id (n := least - late) (by omega) (by omega)]
    by_cases c : a3 < least - late
    · rw [if_pos c, if_pos c]
    · rw [if_neg c, if_neg c]
      cases has with
      | true =>
        simp only [reduceIte, Bool.true_eq_false, false_and]
        rw [rverdict_j2]
        simp only [Bool.false_eq_true, reduceIte]
      | false =>
        simp only [reduceIte, Bool.false_eq_true, true_and]
        rw [rverdict_j2]
        by_cases c1 : series ≤ known
        · rw [if_pos (decide_eq_true c1), if_pos c1]
        · rw [if_neg (by rw [decide_eq_true_eq]; exact c1), if_neg c1]
theorem rverdict_eq (k : Nat) (l : List S42) (hl : l.length ≤ 4611686018427387904) (hk : l.length + 1073741850 ≤ k) (late room series sources least held known : Int) (has : Bool) (a0 a1 a2 a3 a4 : Int) :
    bourneref1_Verdict.f (k + 3) l late room series sources least held known has a0 a1 a2 a3 a4 = some (vM (cMay l late room series sources) late room series sources least held known has a0 a1 a2 a3 a4) := by
  have no : bourneref1_Verdict.j0 (k + 3) least held known has true l late room series sources a0 a1 a2 a3 a4 = some (0, 1400) := by
    simp only [bourneref1_Verdict.j0]; rfl
  unfold bourneref1_Verdict.f vM
  rw [rcfg_eq (k + 3) l hl late room series sources (by omega), Option.bind_some]
  cases hc : cMay l late room series sources with
  | false => rw [if_neg (by decide), no, if_neg (fun h => by cases h.1)]
  | true =>
    have hin := cMay_in hc
    rw [if_pos rfl]
    by_cases c : -4398046511104 ≤ least ∧ least ≤ 4398046511104
    · rw [if_neg (by omega), if_neg (by omega)]
      by_cases c1 : held < 0
      · rw [if_pos c1, no, if_neg (fun h => by omega)]
      · rw [if_neg c1]
        by_cases c2 : known < 0
        · rw [decide_eq_true c2, no, if_neg (fun h => by omega)]
        · rw [decide_eq_false c2, if_pos ⟨rfl, by omega⟩]
          have j1 : ∀ b, bourneref1_Verdict.j1 (k + 2) least held known has b l late room series sources a0 a1 a2 a3 a4 = _ := fun b => rverdict_j1 k least held known has b l late room series sources a0 a1 a2 a3 a4 c.1 c.2 hin.1 hin.2.1
          generalize (if a3 < least - late then ((1 : Int), (0 : Int)) else if has = false ∧ series ≤ known then (3, 0) else if room ≤ held then (2, 0) else (0, 0)) = E at *
          simp only [bourneref1_Verdict.j0]
          simp only [Bool.false_eq_true, reduceIte]
          by_cases d0 : a0 = 0
          · rw [if_pos d0, show bourneref1_OpMay.f (k + 2) a0 a1 a2 a3 a4 = some (oMay a0 a1 a2 a3 a4) from ropMay14 (k + 1) a0 a1 a2 a3 a4, Option.bind_some]
            by_cases d1 : oMay a0 a1 a2 a3 a4 = true
            · rw [if_pos d1, j1]
              by_cases d2 : a1 < sources
              · rw [decide_eq_false (show ¬ a1 ≥ sources by omega), if_pos (show a0 = 0 ∧ oMay a0 a1 a2 a3 a4 = true ∧ a1 < sources from ⟨d0, d1, d2⟩)]; rfl
              · rw [decide_eq_true (show a1 ≥ sources by omega), if_pos rfl, if_neg (fun h => d2 h.2.2)]
            · rw [if_neg d1, j1, if_pos rfl, if_neg (fun h => d1 h.2.1)]
          · rw [if_neg d0, j1, if_pos rfl, if_neg (fun h => d0 h.1)]
    · by_cases c3 : least < -4398046511104
      · rw [if_pos c3, no, if_neg (fun h => c ⟨h.2.1, h.2.2.1⟩)]
      · rw [if_neg c3, if_pos (by omega), no, if_neg (fun h => c ⟨h.2.1, h.2.2.1⟩)]
theorem ints_l0 (l : List Int) (hl : l.length ≤ 4611686018427387904) (d : Nat) : ∀ (i k : Nat), l.length - i = d → i ≤ l.length → d < k → bournelaw0_SameInts.l0 k l l (i : Int) = some true := by
  induction d with
  | zero =>
    intro i k hd hi hk
    obtain ⟨k, rfl⟩ : ∃ m, k = m + 1 := ⟨k - 1, by omega⟩
    simp only [bournelaw0_SameInts.l0]
    rw [if_neg (by omega)]
  | succ d ih =>
    intro i k hd hi hk
    obtain ⟨k, rfl⟩ : ∃ m, k = m + 1 := ⟨k - 1, by omega⟩
    simp only [bournelaw0_SameInts.l0]
    rw [if_pos (by omega), if_pos (by omega), if_pos (by omega), if_pos True.intro, up14 i (by omega)]
    exact ih (i + 1) k (by omega) (by omega) (by omega)
theorem query_self (q : S42) (hb : q.f4.length ≤ 4611686018427387904) (k : Nat) (hk : q.f4.length < k) : bournelaw0_SameQuery.f k q.f0 q.f1 q.f2 q.f3 q.f4 q.f5 q.f0 q.f1 q.f2 q.f3 q.f4 q.f5 = some true := by
  unfold bournelaw0_SameQuery.f bournelaw0_SameInts.f
  have := ints_l0 q.f4 hb q.f4.length 0 k rfl (Nat.zero_le _) hk
  rw [show ((0 : Nat) : Int) = 0 from rfl] at this
  rw [if_pos rfl, if_pos rfl, if_pos rfl, if_pos rfl, if_pos rfl, this, Option.bind_some, if_pos rfl, beq_self_eq_true]
theorem cfg_l0 (l : List S42) (hl : l.length ≤ 4611686018427387904) (M : Nat) (hM : M ≤ 4611686018427387904) (hb : ∀ q ∈ l, q.f4.length ≤ M) (a b c e : Int) (d : Nat) : ∀ (i k : Nat), l.length - i = d → i ≤ l.length → d + M + 1 < k → bournelaw0_SameConfig.l0 k (i : Int) l a b c e l a b c e = some true := by
  induction d with
  | zero =>
    intro i k hd hi hk
    obtain ⟨k, rfl⟩ : ∃ m, k = m + 1 := ⟨k - 1, by omega⟩
    simp only [bournelaw0_SameConfig.l0]
    rw [if_neg (by omega)]
  | succ d ih =>
    intro i k hd hi hk
    obtain ⟨k, rfl⟩ : ∃ m, k = m + 1 := ⟨k - 1, by omega⟩
    have hlt : i < l.length := by omega
    have hm := hb l[i] (List.getElem_mem hlt)
    simp only [bournelaw0_SameConfig.l0]
    rw [if_pos (by omega), if_pos (by omega), if_pos (by omega), rd42 l i hlt, query_self l[i] (by omega) k (by omega), Option.bind_some, if_pos rfl, up14 i (by omega)]
    exact ih (i + 1) k (by omega) (by omega) (by omega)
theorem cfg_self (l : List S42) (hl : l.length ≤ 4611686018427387904) (M : Nat) (hM : M ≤ 4611686018427387904) (hb : ∀ q ∈ l, q.f4.length ≤ M) (a b c e : Int) (k : Nat) (hk : l.length + M + 1 < k) : bournelaw0_SameConfig.f (k + 1) l a b c e l a b c e = some true := by
  have := cfg_l0 l hl M hM hb a b c e l.length 0 k rfl (Nat.zero_le _) hk
  rw [show ((0 : Nat) : Int) = 0 from rfl] at this
  unfold bournelaw0_SameConfig.f
  rw [if_pos rfl, if_pos rfl, if_pos rfl, if_pos rfl]
  simp only [bournelaw0_SameConfig.j0]
  rw [bne_self_eq_false, if_neg (by decide), this]
theorem admits_ev (l : List S42) (hl : l.length * 64 ≤ 140737488351232) (hb : ∀ q ∈ l, q.f4.length * 8 ≤ 140737488351232) (late room series sources least held known : Int) (has : Bool) (a0 a1 a2 a3 a4 : Int) (k : Nat) (hk : 40000000000000 ≤ k) :
    bournelaw14_Admits.f (k + 3) l late room series sources least held known has a0 a1 a2 a3 a4 = some true := by
  have hc := copy_l0 l hl hb late room series sources l.length 0 (k + 3) rfl (Nat.zero_le _) (by omega)
  rw [show ((0 : Nat) : Int) = 0 from rfl, List.take_zero] at hc
  have hs := cfg_self l (by omega) 17592186044416 (by omega) (fun q hq => by have := hb q hq; omega) late room series sources (k + 2) (by omega)
  unfold bournelaw14_Admits.f bournelaw0_CopyConfig.f
  rw [hc, Option.bind_some]
  dsimp only
  rw [verdict_eq, Option.bind_some, rverdict_eq k l (by omega) (by omega), Option.bind_some, if_pos rfl, num14, Option.bind_some, if_pos rfl, show admit_May.f l late room series sources = some (cMay l late room series sources) from rfl, Option.bind_some,
    rcfg_eq (k + 3) l (by omega) late room series sources (by omega), Option.bind_some, if_pos (by simp), hs, Option.bind_some, if_pos rfl, awake14 k, Option.bind_some]
theorem admits_walk (A : Option Addr) (c : Nat) (l : List S42) (late room series sources least held known : Int) (has : Bool) (a0 a1 a2 a3 a4 : Int) (w : World) (hC : Kd.C k42 w A l.length l) (hl : l.length ≤ c)
    (g : ((l.length * 64 ≤ 140737488351232 ∧ ∀ q ∈ l, ((Lit.int .i64 q.f0).wf = true ∧ (Lit.int .i64 q.f1).wf = true ∧ (Lit.int .i64 q.f2).wf = true ∧ (Lit.int .i64 q.f3).wf = true ∧ (q.f4.length * 8 ≤ 140737488351232 ∧ ∀ n ∈ q.f4, (Lit.int .i64 n).wf = true) ∧ (Lit.int .i64 q.f5).wf = true)) ∧ (Lit.int .i64 late).wf = true ∧ (Lit.int .i64 room).wf = true ∧ (Lit.int .i64 series).wf = true ∧ (Lit.int .i64 sources).wf = true))
    (_ : (Lit.int .i64 least).wf = true) (_ : (Lit.int .i64 held).wf = true) (_ : (Lit.int .i64 known).wf = true) (_ : ((Lit.int .i64 a0).wf = true ∧ (Lit.int .i64 a1).wf = true ∧ (Lit.int .i64 a2).wf = true ∧ (Lit.int .i64 a3).wf = true ∧ (Lit.int .i64 a4).wf = true)) :
    Calls Try.prog 3 #[.agg #[.slice A l.length c, .int .i64 late, .int .i64 room, .int .i64 series, .int .i64 sources], .int .i64 least, .int .i64 held, .int .i64 known, .bool has, .agg #[.int .i64 a0, .int .i64 a1, .int .i64 a2, .int .i64 a3, .int .i64 a4]] w fun e w' => e = .returned (.bool true) ∧ Below w.heap.size w w' := by
  obtain ⟨K, hK⟩ : ∃ K, K = 40000000000000 := ⟨_, rfl⟩
  exact bournelaw14_Admits.calls (K + 3) A c l late room series sources least held known has a0 a1 a2 a3 a4 true w hC hl (admits_ev l g.1.1 (fun q hq => (g.1.2 q hq).2.2.2.2.1.1) late room series sources least held known has a0 a1 a2 a3 a4 K (by omega))

end Go.Proofs.Ytcbckolcmfbjhaa.Pure
