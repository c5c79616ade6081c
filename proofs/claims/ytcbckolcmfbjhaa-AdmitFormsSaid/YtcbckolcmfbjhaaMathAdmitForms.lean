/- The law AdmitForms answers true at any two numbers: configs and numbers that are none are told as such. No condition. -/
import Derived.Test.YtcbckolcmfbjhaaAdmitFormsWalk
namespace Go.Proofs.Ytcbckolcmfbjhaa.FormsMath
open Go.RowKit Go.Proofs.Ytcbckolcmfbjhaa.QAdmitForms Go.Proofs.Ytcbckolcmfbjhaa.FormsW Go.Proofs.YtcbckolcmfbjhaaW.PrintWords Go.Proofs.YtcbckolcmfbjhaaW.PrintLast Go.Proofs.YtcbckolcmfbjhaaW.PrintMore
set_option linter.unusedVariables false
set_option linter.unusedSimpArgs false

/-! ### base -/
theorem wf_i64 {a : Int} (h : (Lit.int .i64 a).wf = true) : -9223372036854775808 ≤ a ∧ a ≤ 9223372036854775807 := by
  simpa [Lit.wf, IntKind.min, IntKind.max, IntKind.signed, IntKind.bits] using h
theorem wrap64_id {n : Int} (h1 : -9223372036854775808 ≤ n) (h2 : n ≤ 9223372036854775807) : wrap64 n = n := by
  unfold wrap64; omega
theorem toNat_ofInt64 (a : Int) : ((BitVec.ofInt 64 a).toNat : Int) = a % 18446744073709551616 := by
  rw [BitVec.toNat_ofInt]
  have h : (0 : Int) ≤ a % ((2 ^ 64 : Nat) : Int) := Int.emod_nonneg _ (by decide)
  rw [Int.toNat_of_nonneg h]; rfl
theorem wrap_i64_nat (n : Nat) (h : n < 9223372036854775808) : IntKind.i64.wrap (n : Int) = (n : Int) := by
  rw [IntKind.wrap_i64]; omega
theorem and_mask (a : Int) (j : Nat) (hj : j ≤ 63) : Go.bits .and .i64 a (2 ^ j - 1) = a % 2 ^ j := by
  have hp : 2 ^ j ≤ 2 ^ 63 := Nat.pow_le_pow_right (by decide) hj
  have hpos : 0 < 2 ^ j := Nat.two_pow_pos j
  have hc : ((2 : Int) ^ j - 1) = ((2 ^ j - 1 : Nat) : Int) := by
    rw [Int.natCast_sub hpos]; simp
  have hd : (2 : Int) ^ j ∣ 18446744073709551616 := ⟨2 ^ (64 - j), by rw [← Int.pow_add]; rw [show j + (64 - j) = 64 by omega]; rfl⟩
  show IntKind.i64.wrap (((BitVec.ofInt 64 a &&& BitVec.ofInt 64 (2 ^ j - 1)).toNat : Nat) : Int) = _
  rw [BitVec.toNat_and, hc, BitVec.ofInt_natCast, BitVec.toNat_ofNat, Nat.mod_eq_of_lt (Nat.lt_of_lt_of_le (Nat.sub_lt hpos (by decide)) (Nat.le_trans hp (by decide))), Nat.and_two_pow_sub_one_eq_mod]
  rw [wrap_i64_nat _ (Nat.lt_of_lt_of_le (Nat.mod_lt _ hpos) hp), Int.natCast_emod, toNat_ofInt64, Int.natCast_pow]
  exact Int.emod_emod_of_dvd a hd
theorem and_m (a : Int) (j : Nat) (m p : Int) (hj : j ≤ 63) (hp : (2 : Int) ^ j = p) (hm : m = p - 1) : Go.bits .and .i64 a m = a % p := by
  subst hm; rw [← hp]; exact and_mask a j hj

/-! ### adm14 -/
theorem oMay_iff14 {a0 a1 a2 a3 a4 : Int} : oMay a0 a1 a2 a3 a4 = true ↔ (a0 = 0 ∧ 0 ≤ a1 ∧ a1 < 8 ∧ 0 ≤ a2 ∧ a2 ≤ 1048575 ∧ -1099511627776 ≤ a3 ∧ a3 ≤ 1099511627776 ∧ -1099511627776 ≤ a4 ∧ a4 ≤ 1099511627776) ∨ (a0 = 1 ∧ 0 ≤ a1 ∧ a1 < 8 ∧ -4398046511104 < a3 ∧ a3 ≤ 4398046511104 ∧ a2 = 0 ∧ a4 = 0) ∨ (a0 = 2 ∧ a1 = 0 ∧ a2 = 0 ∧ a3 = 0 ∧ a4 = 0) := by
  unfold oMay srcMay markMay sampMay
  by_cases c : a0 = 0
  · rw [if_pos c, decide_eq_true_eq]; omega
  · rw [if_neg c]
    by_cases c1 : a0 = 1
    · rw [if_pos c1]; simp only [Bool.and_eq_true, decide_eq_true_eq, beq_iff_eq]; omega
    · rw [if_neg c1]; simp only [Bool.and_eq_true, beq_iff_eq]; omega
theorem num14 (a : Int) : bournelaw0_Num.f a = some a := rfl
/-- What is told of a sample: by whether the config may be, and the numbers. -/
def vM (mc : Bool) (late room series sources least held known : Int) (has : Bool) (a0 a1 a2 a3 a4 : Int) : Int × Int :=
  if mc = true ∧ (-4398046511104 ≤ least ∧ least ≤ 4398046511104 ∧ 0 ≤ held ∧ 0 ≤ known) then
    (if a0 = 0 ∧ oMay a0 a1 a2 a3 a4 = true ∧ a1 < sources then
      (if a3 < least - late then (1, 0) else if has = false ∧ series ≤ known then (3, 0) else if room ≤ held then (2, 0) else (0, 0))
     else (4, 0))
  else (0, 1400)
theorem cMay_in {l : List S42} {late room series sources : Int} (h : cMay l late room series sources = true) : 0 ≤ late ∧ late ≤ 1073741824 ∧ 1 ≤ room ∧ room ≤ 4096 ∧ 1 ≤ series ∧ series ≤ 64 ∧ 1 ≤ sources ∧ sources ≤ 8 := by
  unfold cMay at h
  simp only [Bool.and_eq_true, decide_eq_true_eq] at h
  exact h.2
theorem least_eq (a : Int) : admit_LeastMay.f a = some (decide (-4398046511104 ≤ a ∧ a ≤ 4398046511104)) := by
  unfold admit_LeastMay.f
  by_cases c : a ≥ (-4398046511104)
  · rw [if_pos c]; exact congrArg some (decide_eq_decide.2 (by omega))
  · rw [if_neg c, decide_eq_false (by omega)]
theorem verdict_j2 (k : Nat) (held : Int) (b : Bool) (l : List S42) (late room series sources : Int) : admit_Verdict.j2 (k + 1) held b l late room series sources = some (if b = true then (3, 0) else if room ≤ held then (2, 0) else (0, 0)) := by
  simp only [admit_Verdict.j2]
  cases b with
  | true => rfl
  | false =>
    simp only [Bool.false_eq_true, reduceIte]
    by_cases c : held ≥ room
    · rw [if_pos c, if_pos (show room ≤ held by omega)]
    · rw [if_neg c, if_neg (show ¬ room ≤ held by omega)]
theorem verdict_j1 (k : Nat) (least held known : Int) (has b : Bool) (l : List S42) (late room series sources a0 a1 a2 a3 a4 : Int) (h1 : -4398046511104 ≤ least) (h2 : least ≤ 4398046511104) (h3 : 0 ≤ late) (h4 : late ≤ 1073741824) :
    admit_Verdict.j1 (k + 2) least held known has b l late room series sources a0 a1 a2 a3 a4 = some (if b = true then (4, 0) else if a3 < least - late then (1, 0) else if has = false ∧ series ≤ known then (3, 0) else if room ≤ held then (2, 0) else (0, 0)) := by
  simp only [admit_Verdict.j1]
  cases b with
  | true => rfl
  | false =>
    simp only [Bool.false_eq_true, reduceIte]
    rw [wrap64_id (n := least - late) (by omega) (by omega)]
    by_cases c : a3 < least - late
    · rw [if_pos c, if_pos c]
    · rw [if_neg c, if_neg c]
      cases has with
      | true =>
        simp only [reduceIte, Bool.true_eq_false, false_and]
        rw [verdict_j2]
        simp only [Bool.false_eq_true, reduceIte]
      | false =>
        simp only [reduceIte, Bool.false_eq_true, true_and]
        rw [verdict_j2]
        by_cases c1 : series ≤ known
        · rw [if_pos (decide_eq_true c1), if_pos c1]
        · rw [if_neg (by rw [decide_eq_true_eq]; exact c1), if_neg c1]
theorem verdict_eq (k : Nat) (l : List S42) (late room series sources least held known : Int) (has : Bool) (a0 a1 a2 a3 a4 : Int) :
    admit_Verdict.f (k + 3) l late room series sources least held known has a0 a1 a2 a3 a4 = some (vM (cMay l late room series sources) late room series sources least held known has a0 a1 a2 a3 a4) := by
  have no : admit_Verdict.j0 (k + 3) least held known has true l late room series sources a0 a1 a2 a3 a4 = some (0, 1400) := by
    simp only [admit_Verdict.j0]; rfl
  unfold admit_Verdict.f vM
  rw [show admit_May.f l late room series sources = some (cMay l late room series sources) from rfl, Option.bind_some]
  cases hc : cMay l late room series sources with
  | false => rw [if_neg (by decide), no, if_neg (fun h => by cases h.1)]
  | true =>
    have hin := cMay_in hc
    rw [if_pos rfl, least_eq, Option.bind_some]
    by_cases c : -4398046511104 ≤ least ∧ least ≤ 4398046511104
    · rw [if_pos (decide_eq_true c)]
      by_cases c1 : held < 0
      · rw [if_pos c1, no, if_neg (fun h => by omega)]
      · rw [if_neg c1]
        by_cases c2 : known < 0
        · rw [decide_eq_true c2, no, if_neg (fun h => by omega)]
        · rw [decide_eq_false c2, if_pos ⟨rfl, by omega⟩]
          have j1 : ∀ b, admit_Verdict.j1 (k + 2) least held known has b l late room series sources a0 a1 a2 a3 a4 = _ := fun b => verdict_j1 k least held known has b l late room series sources a0 a1 a2 a3 a4 c.1 c.2 hin.1 hin.2.1
          generalize (if a3 < least - late then ((1 : Int), (0 : Int)) else if has = false ∧ series ≤ known then (3, 0) else if room ≤ held then (2, 0) else (0, 0)) = E at *
          simp only [admit_Verdict.j0]
          simp only [Bool.false_eq_true, reduceIte]
          by_cases d0 : a0 = 0
          · rw [if_pos d0, show wire_May.f a0 a1 a2 a3 a4 = some (oMay a0 a1 a2 a3 a4) from rfl, Option.bind_some]
            by_cases d1 : oMay a0 a1 a2 a3 a4 = true
            · rw [if_pos d1, j1]
              by_cases d2 : a1 < sources
              · rw [decide_eq_false (show ¬ a1 ≥ sources by omega), if_pos (show a0 = 0 ∧ oMay a0 a1 a2 a3 a4 = true ∧ a1 < sources from ⟨d0, d1, d2⟩)]; rfl
              · rw [decide_eq_true (show a1 ≥ sources by omega), if_pos rfl, if_neg (fun h => d2 h.2.2)]
            · rw [if_neg d1, j1, if_pos rfl, if_neg (fun h => d1 h.2.1)]
          · rw [if_neg d0, j1, if_pos rfl, if_neg (fun h => d0 h.1)]
    · rw [decide_eq_false c, if_neg (by decide), no, if_neg (fun h => c ⟨h.2.1, h.2.2.1⟩)]
theorem aMay14 : aMay 0 [] 0 = true := by kernel_rfl
theorem q_tum14 (m : Int) (h1 : 1 ≤ m) (h2 : m ≤ 1073741824) : qMay 0 0 m 0 [] 0 = true := by
  unfold qMay
  rw [aMay14, decide_eq_true ⟨h1, h2⟩, if_neg (by omega)]
  rfl
theorem c_one (m late room series sources : Int) (h1 : 1 ≤ m) (h2 : m ≤ 1073741824) (h : 0 ≤ late ∧ late ≤ 1073741824 ∧ 1 ≤ room ∧ room ≤ 4096 ∧ 1 ≤ series ∧ series ≤ 64 ∧ 1 ≤ sources ∧ sources ≤ 8) : cMay [(⟨0, 0, m, 0, ([] : List Int), 0⟩ : S42)] late room series sources = true := by
  unfold cMay allQ qB
  rw [decide_eq_true h, List.all_cons, List.all_nil]
  dsimp only
  rw [q_tum14 m h1 h2]; rfl
theorem c_good : cMay [(⟨0, 0, 10, 0, ([] : List Int), 0⟩ : S42)] 5 3 2 1 = true := c_one 10 5 3 2 1 (by omega) (by omega) (by omega)
theorem c_none : cMay ([] : List S42) 0 0 0 0 = false := by unfold cMay; rfl
theorem vM_ok (late room series sources least held known : Int) (has : Bool) (a0 a1 a2 a3 a4 : Int) (h : -4398046511104 ≤ least ∧ least ≤ 4398046511104 ∧ 0 ≤ held ∧ 0 ≤ known) (ho : a0 = 0 ∧ oMay a0 a1 a2 a3 a4 = true ∧ a1 < sources) :
    vM true late room series sources least held known has a0 a1 a2 a3 a4 = if a3 < least - late then (1, 0) else if has = false ∧ series ≤ known then (3, 0) else if room ≤ held then (2, 0) else (0, 0) := by
  unfold vM; rw [if_pos ⟨rfl, h⟩, if_pos ho]
theorem vM_form (late room series sources least held known : Int) (has : Bool) (a0 a1 a2 a3 a4 : Int) (h : -4398046511104 ≤ least ∧ least ≤ 4398046511104 ∧ 0 ≤ held ∧ 0 ≤ known) (ho : ¬ (a0 = 0 ∧ oMay a0 a1 a2 a3 a4 = true ∧ a1 < sources)) :
    vM true late room series sources least held known has a0 a1 a2 a3 a4 = (4, 0) := by
  unfold vM; rw [if_pos ⟨rfl, h⟩, if_neg ho]
theorem awake14 (k : Nat) : bournelaw14_awake.f (k + 3) = some true := by
  have s (a1 a2 a3 a4 : Int) (h : 0 ≤ a1 ∧ a1 < 8 ∧ 0 ≤ a2 ∧ a2 ≤ 1048575 ∧ -1099511627776 ≤ a3 ∧ a3 ≤ 1099511627776 ∧ -1099511627776 ≤ a4 ∧ a4 ≤ 1099511627776) : oMay 0 a1 a2 a3 a4 = true := oMay_iff14.2 (.inl ⟨rfl, h⟩)
  have v1 : vM true 5 3 2 1 10 2 1 false 0 0 0 5 0 = (0, 0) := by rw [vM_ok _ _ _ _ _ _ _ _ _ _ _ _ _ (by omega) ⟨rfl, s _ _ _ _ (by omega), by omega⟩]; decide
  have v2 : vM true 5 3 2 1 10 2 1 false 0 0 0 4 0 = (1, 0) := by rw [vM_ok _ _ _ _ _ _ _ _ _ _ _ _ _ (by omega) ⟨rfl, s _ _ _ _ (by omega), by omega⟩]; decide
  have v3 : vM true 5 3 2 1 10 3 1 true 0 0 0 5 0 = (2, 0) := by rw [vM_ok _ _ _ _ _ _ _ _ _ _ _ _ _ (by omega) ⟨rfl, s _ _ _ _ (by omega), by omega⟩]; decide
  have v4 : vM true 5 3 2 1 10 2 2 false 0 0 0 5 0 = (3, 0) := by rw [vM_ok _ _ _ _ _ _ _ _ _ _ _ _ _ (by omega) ⟨rfl, s _ _ _ _ (by omega), by omega⟩]; decide
  have v5 : vM true 5 3 2 1 10 2 2 false 0 1 0 5 0 = (4, 0) := vM_form _ _ _ _ _ _ _ _ _ _ _ _ _ (by omega) (by omega)
  have v6 : vM true 5 3 2 1 10 (-1) 2 false 0 0 0 5 0 = (0, 1400) := by unfold vM; rw [if_neg (by omega)]
  unfold bournelaw14_awake.f bournelaw14_count.f
  rw [Option.bind_some]
  dsimp only
  simp only [verdict_eq, c_good, v1, v2, v3, v4, v5, v6, Option.bind_some, show ∀ l a b c d, admit_May.f l a b c d = some (cMay l a b c d) from fun _ _ _ _ _ => rfl, c_none, num14, if_true, Bool.false_eq_true, if_false]
  rfl

theorem wrap_u64 (n : Int) : IntKind.u64.wrap n = n % 18446744073709551616 := by rw [IntKind.wrap_u64]
theorem c_num {l : List S42} {late room series sources : Int} (h : ¬ (0 ≤ late ∧ late ≤ 1073741824 ∧ 1 ≤ room ∧ room ≤ 4096 ∧ 1 ≤ series ∧ series ≤ 64 ∧ 1 ≤ sources ∧ sources ≤ 8)) : cMay l late room series sources = false := by
  unfold cMay; rw [decide_eq_false h, Bool.and_false]
theorem c_len {l : List S42} {late room series sources : Int} (h : ¬ (1 ≤ l.length ∧ l.length ≤ 8)) : cMay l late room series sources = false := by
  unfold cMay; rw [decide_eq_false h, Bool.false_and, Bool.false_and]
theorem c_q (m : Int) {late room series sources : Int} (h : m < 1) : cMay [(⟨0, 0, m, 0, ([] : List Int), 0⟩ : S42)] late room series sources = false := by
  unfold cMay allQ qB qMay
  rw [List.all_cons]
  dsimp only
  rw [decide_eq_false (show ¬ (1 ≤ m ∧ m ≤ 1073741824) by omega), Bool.false_and, Bool.false_and, Bool.and_false, Bool.false_and]
theorem v_no (k : Nat) {l : List S42} {late room series sources : Int} (h : cMay l late room series sources = false) (least held known : Int) (has : Bool) (a0 a1 a2 a3 a4 : Int) : admit_Verdict.f (k + 3) l late room series sources least held known has a0 a1 a2 a3 a4 = some (0, 1400) := by
  rw [verdict_eq, h]; unfold vM; rw [if_neg (fun h => by cases h.1)]
theorem v_num (k : Nat) {l : List S42} {late room series sources least held known : Int} (h : ¬ (-4398046511104 ≤ least ∧ least ≤ 4398046511104 ∧ 0 ≤ held ∧ 0 ≤ known)) (has : Bool) (a0 a1 a2 a3 a4 : Int) : admit_Verdict.f (k + 3) l late room series sources least held known has a0 a1 a2 a3 a4 = some (0, 1400) := by
  rw [verdict_eq]; unfold vM; rw [if_neg (fun q => h q.2)]
theorem forms_walk (a0 a1 : Int) (w : World) (h0 : (Lit.int .i64 a0).wf = true) (h1 : (Lit.int .i64 a1).wf = true) :
    Calls Try.prog 4 #[.int .i64 a0, .int .i64 a1] w fun e w' => e = .returned (.bool true) ∧ Below w.heap.size w w' := by
  have e1 := and_m a1 10 1023 1024 (by omega) rfl rfl
  have b1 : 0 ≤ a1 % 1024 := Int.emod_nonneg _ (by omega)
  have b2 : a1 % 1024 < 1024 := Int.emod_lt_of_pos _ (by omega)
  have hd : wrap64 (1 + (Go.bits .and .i64 a1 1023)) = 1 + a1 % 1024 := by rw [e1, wrap64_id (by omega) (by omega)]
  generalize a1 % 1024 = x at *
  obtain ⟨d, hd1⟩ : ∃ d, 1 + x = d := ⟨_, rfl⟩
  rw [hd1] at hd
  have d1 : 1 ≤ d := by omega
  have d2 : d ≤ 1024 := by omega
  clear e1 b1 b2 hd1
  have A := Aside0.mk (awake14 7)
  have C : Aside0 (bournelaw14_count.f 5 3 = some ([(⟨0, 0, 10, 0, ([] : List Int), 0⟩ : S42)], 5, 3, 2, 1)) := ⟨rfl⟩
  have G : Aside0 (admit_May.f [(⟨0, 0, 10, 0, ([] : List Int), 0⟩ : S42)] 5 3 2 1 = some true) := ⟨congrArg some c_good⟩
  have hu : Int.tmod (IntKind.u64.wrap a0) 15 = a0 % 18446744073709551616 % 15 := by rw [wrap_u64, Int.tmod_eq_emod_of_nonneg (by omega)]
  have hc0 : 0 ≤ Int.tmod (IntKind.u64.wrap a0) 15 := by rw [hu]; omega
  have hc1 : Int.tmod (IntKind.u64.wrap a0) 15 < 15 := by rw [hu]; omega
  clear hu
  have hcs : ∀ c : Int, 0 ≤ c → c < 15 → c = 0 ∨ c = 1 ∨ c = 2 ∨ c = 3 ∨ c = 4 ∨ c = 5 ∨ c = 6 ∨ c = 7 ∨ c = 8 ∨ c = 9 ∨ c = 10 ∨ c = 11 ∨ c = 12 ∨ c = 13 ∨ c = 14 := fun c _ _ => by omega
  rcases hcs _ hc0 hc1 with hc | hc | hc | hc | hc | hc | hc | hc | hc | hc | hc | hc | hc | hc | hc
  · exact way0 10 a0 a1 d w hc ⟨hd⟩ d1 d2 A C ⟨v_no 7 (c_len (l := ([] : List S42)) (by simp)) _ _ _ _ _ _ _ _ _⟩ ⟨congrArg some (c_len (l := ([] : List S42)) (by simp))⟩ G
  · exact way1 10 a0 a1 d w hc ⟨hd⟩ d1 d2 A C ⟨v_no 7 (c_q (1 - d) (by omega)) _ _ _ _ _ _ _ _ _⟩ ⟨congrArg some (c_q (1 - d) (by omega))⟩ G
  · exact way2 10 a0 a1 d w hc ⟨hd⟩ d1 d2 A C _ ⟨rfl⟩ ⟨v_no 7 (c_len (l := List.replicate (8 + d).toNat z42) (by rw [List.length_replicate]; omega)) _ _ _ _ _ _ _ _ _⟩ ⟨congrArg some (c_len (l := List.replicate (8 + d).toNat z42) (by rw [List.length_replicate]; omega))⟩ G
  · exact way3 10 a0 a1 d w hc ⟨hd⟩ d1 d2 A C ⟨v_no 7 (c_num (by omega)) _ _ _ _ _ _ _ _ _⟩ ⟨congrArg some (c_num (by omega))⟩ G
  · exact way4 10 a0 a1 d w hc ⟨hd⟩ d1 d2 A C ⟨v_no 7 (c_num (by omega)) _ _ _ _ _ _ _ _ _⟩ ⟨congrArg some (c_num (by omega))⟩ G
  · exact way5 10 a0 a1 d w hc ⟨hd⟩ d1 d2 A C ⟨v_no 7 (c_num (by omega)) _ _ _ _ _ _ _ _ _⟩ ⟨congrArg some (c_num (by omega))⟩ G
  · exact way6 10 a0 a1 d w hc ⟨hd⟩ d1 d2 A C ⟨v_no 7 (c_num (by omega)) _ _ _ _ _ _ _ _ _⟩ ⟨congrArg some (c_num (by omega))⟩ G
  · exact way7 10 a0 a1 d w hc ⟨hd⟩ d1 d2 A C ⟨v_no 7 (c_num (by omega)) _ _ _ _ _ _ _ _ _⟩ ⟨congrArg some (c_num (by omega))⟩ G
  · exact way8 10 a0 a1 d w hc ⟨hd⟩ d1 d2 A C ⟨v_no 7 (c_num (by omega)) _ _ _ _ _ _ _ _ _⟩ ⟨congrArg some (c_num (by omega))⟩ G
  · exact way9 10 a0 a1 d w hc ⟨hd⟩ d1 d2 A C ⟨v_no 7 (c_num (by omega)) _ _ _ _ _ _ _ _ _⟩ ⟨congrArg some (c_num (by omega))⟩ G
  · exact way10 10 a0 a1 d w hc ⟨hd⟩ d1 d2 A C ⟨v_no 7 (c_num (by omega)) _ _ _ _ _ _ _ _ _⟩ ⟨congrArg some (c_num (by omega))⟩ G
  · exact way11 10 a0 a1 d w hc ⟨hd⟩ d1 d2 A C ⟨v_num 7 (by omega) _ _ _ _ _ _⟩ ⟨congrArg some c_good⟩ G
  · exact way12 10 a0 a1 d w hc ⟨hd⟩ d1 d2 A C ⟨v_num 7 (by omega) _ _ _ _ _ _⟩ ⟨congrArg some c_good⟩ G
  · exact way13 10 a0 a1 d w hc ⟨hd⟩ d1 d2 A C ⟨v_num 7 (by omega) _ _ _ _ _ _⟩ ⟨congrArg some c_good⟩ G
  · exact way14 10 a0 a1 d w hc ⟨hd⟩ d1 d2 A C ⟨v_num 7 (by omega) _ _ _ _ _ _⟩ ⟨congrArg some c_good⟩ G

end Go.Proofs.Ytcbckolcmfbjhaa.FormsMath
