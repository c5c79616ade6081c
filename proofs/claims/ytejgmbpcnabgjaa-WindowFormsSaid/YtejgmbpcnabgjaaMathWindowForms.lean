/- The law WindowForms answers true at any two numbers: a query with any of these parts may not be, and has no windows. No condition. -/
import Derived.Test.YtejgmbpcnabgjaaQWindowFormsx5
namespace Go.Proofs.Ytejgmbpcnabgjaa.Pure
open Go.RowKit Go.Proofs.Ytejgmbpcnabgjaa.QWindowForms Go.Proofs.YtejgmbpcnabgjaaW.PrintWords Go.Proofs.YtejgmbpcnabgjaaW.PrintLast Go.Proofs.YtejgmbpcnabgjaaW.PrintMore
set_option linter.unusedVariables false
set_option linter.unusedSimpArgs false

/-! ### base -/
theorem wf_i64 {a : Int} (h : (Lit.int .i64 a).wf = true) : -9223372036854775808 ≤ a ∧ a ≤ 9223372036854775807 := by
  simpa [Lit.wf, IntKind.min, IntKind.max, IntKind.signed, IntKind.bits] using h
theorem wrap64_id {n : Int} (h1 : -9223372036854775808 ≤ n) (h2 : n ≤ 9223372036854775807) : wrap64 n = n := by
  unfold wrap64; omega
theorem toNat_ofInt64 (a : Int) : ((BitVec.ofInt 64 a).toNat : Int) = a % 18446744073709551616 := by
  rw [BitVec.toNat_ofInt]
  have h : (0 : Int) ≤ a % ((2 ^ 64 : Nat) : Int) := Int.emod_nonneg _ (by decide)
  rw [Int.toNat_of_nonneg h]; rfl
theorem wrap_i64_nat (n : Nat) (h : n < 9223372036854775808) : IntKind.i64.wrap (n : Int) = (n : Int) := by
  rw [IntKind.wrap_i64]; omega
theorem and_mask (a : Int) (j : Nat) (hj : j ≤ 63) : Go.bits .and .i64 a (2 ^ j - 1) = a % 2 ^ j := by
  have hp : 2 ^ j ≤ 2 ^ 63 := Nat.pow_le_pow_right (by decide) hj
  have hpos : 0 < 2 ^ j := Nat.two_pow_pos j
  have hc : ((2 : Int) ^ j - 1) = ((2 ^ j - 1 : Nat) : Int) := by
    rw [Int.natCast_sub hpos]; simp
  have hd : (2 : Int) ^ j ∣ 18446744073709551616 := ⟨2 ^ (64 - j), by rw [← Int.pow_add]; rw [show j + (64 - j) = 64 by omega]; rfl⟩
  show IntKind.i64.wrap (((BitVec.ofInt 64 a &&& BitVec.ofInt 64 (2 ^ j - 1)).toNat : Nat) : Int) = _
  rw [BitVec.toNat_and, hc, BitVec.ofInt_natCast, BitVec.toNat_ofNat, Nat.mod_eq_of_lt (Nat.lt_of_lt_of_le (Nat.sub_lt hpos (by decide)) (Nat.le_trans hp (by decide))), Nat.and_two_pow_sub_one_eq_mod]
  rw [wrap_i64_nat _ (Nat.lt_of_lt_of_le (Nat.mod_lt _ hpos) hp), Int.natCast_emod, toNat_ofInt64, Int.natCast_pow]
  exact Int.emod_emod_of_dvd a hd
theorem and_m (a : Int) (j : Nat) (m p : Int) (hj : j ≤ 63) (hp : (2 : Int) ^ j = p) (hm : m = p - 1) : Go.bits .and .i64 a m = a % p := by
  subst hm; rw [← hp]; exact and_mask a j hj

/-! ### win -/
theorem num_eq (a : Int) : bournelaw0_Num.f a = some a := rfl
theorem rd38_nat (xs : List S38) (i : Nat) : rd_T38 xs (i : Int) = xs.getD i z38 := by unfold rd_T38; rw [Int.toNat_natCast]
theorem same_l0 (xs : List S38) (hn : xs.length ≤ 4611686018427387904) (d : Nat) : ∀ (k i : Nat), i + d = xs.length → d < k → bournelaw0_SameSpans.l0 k xs xs (i : Int) = some true := by
  induction d with
  | zero =>
    intro k i hi hk
    obtain ⟨k, rfl⟩ : ∃ m, k = m + 1 := ⟨k - 1, by omega⟩
    simp only [bournelaw0_SameSpans.l0]
    rw [if_neg (by omega)]
  | succ d ih =>
    intro k i hi hk
    obtain ⟨k, rfl⟩ : ∃ m, k = m + 1 := ⟨k - 1, by omega⟩
    simp only [bournelaw0_SameSpans.l0]
    rw [if_pos (by omega), if_pos (by omega), if_pos (by omega), if_neg (by simp), w64_id (by omega) (by omega)]
    exact ih k (i + 1) (by omega) (by omega)
theorem same_self (xs : List S38) (hn : xs.length ≤ 4611686018427387904) (k : Nat) (hk : xs.length < k) : bournelaw0_SameSpans.f k xs xs = some true := by
  unfold bournelaw0_SameSpans.f
  rw [if_pos rfl]
  exact same_l0 xs hn xs.length k 0 (by omega) hk
theorem aw1 : winL 1 0 5 2 [] 0 4 = ([(⟨0, 5⟩ : S38), (⟨2, 7⟩ : S38), (⟨4, 9⟩ : S38)], 0) := by kernel_rfl
theorem aw2 : winL 2 0 5 0 [] 0 4 = (([] : List S38), 400) := by kernel_rfl
theorem aw3 : winL 0 0 10 0 [] 0 (-1) = ([(⟨(-10), 0⟩ : S38)], 0) := by kernel_rfl
theorem aw4 : qMay 1 0 5 2 [] 0 = true := by kernel_rfl
theorem aw5 : qMay 0 0 0 0 [] 0 = false := by kernel_rfl
theorem awake_eq (k : Nat) (hk : 4 ≤ k) : bournelaw4_awake.f k = some true := by
  unfold bournelaw4_awake.f window_Of.f window_May.f
  rw [aw1, aw2, aw3, aw4, aw5]
  simp only [Option.bind_some]
  rw [same_self _ (by simp) k (by simp; omega)]
  simp only [Option.bind_some, num_eq, if_true]
  rw [same_self _ (by simp) k (by simp; omega)]
  simp
theorem winL_ok {kind agg size slide rank t : Int} {bs : List Int} (h : wMay kind agg size slide bs rank t = true) : winL kind agg size slide bs rank t = (spans (wfirst (wstep kind size slide) size t) (wstep kind size slide) size (wmany (wstep kind size slide) size t), 0) := by
  unfold winL; rw [if_pos h]
theorem winL_no {kind agg size slide rank t : Int} {bs : List Int} (h : wMay kind agg size slide bs rank t = false) : winL kind agg size slide bs rank t = ([], 400) := by
  unfold winL; rw [if_neg (by rw [h]; decide)]
theorem spans_get (s k m : Int) (n i : Nat) (h : i < n) : (spans s k m n).getD i z38 = ⟨s + (i : Int) * k, s + (i : Int) * k + m⟩ := by
  unfold spans
  rw [List.getD_eq_getElem?_getD, List.getElem?_map, List.getElem?_range h]; rfl
theorem wmany_pos (k m t : Int) (hk : 1 ≤ k) (hkm : k ≤ m) : 1 ≤ wmany k m t := by
  have hf := wfirst_in k m t hk
  have := (wmany_le k m t hk hkm 0).1 (by omega)
  omega
theorem wstep_sl (size slide : Int) : wstep 1 size slide = slide := by unfold wstep; rw [if_pos rfl]
theorem wstep_tu (size slide : Int) : wstep 0 size slide = size := by unfold wstep; rw [if_neg (by omega)]

theorem q_fin (kind agg size slide : Int) (bs : List Int) (rank : Int) (h : qMay kind agg size slide bs rank = false) :
    ((window_Of.f kind agg size slide bs rank 3).bind fun bt => (if true = true then ((window_May.f kind agg size slide bs rank).bind fun t => (if t = true then (some false) else (if (bt.1.length : Int) = 0 then ((bournelaw0_Num.f bt.2).bind fun u => (some (u == 400))) else (some false)))) else (some false))) = some true := by
  unfold window_Of.f window_May.f
  rw [winL_no (by unfold wMay; rw [h, Bool.false_and]), h]
  rfl
theorem q_kind {kind agg size slide : Int} {bs : List Int} {rank : Int} (h : kind < 0 ∨ 2 < kind) : qMay kind agg size slide bs rank = false := by
  unfold qMay; rw [if_neg (by omega), decide_eq_false (show ¬ ((kind = 0 ∨ kind = 2) ∧ slide = 0) by omega), Bool.and_false, Bool.and_false]
theorem q_agg {kind agg size slide : Int} {bs : List Int} {rank : Int} (h : aMay agg bs rank = false) : qMay kind agg size slide bs rank = false := by
  unfold qMay; rw [h, Bool.false_and, Bool.and_false]
theorem q_size {kind agg size slide : Int} {bs : List Int} {rank : Int} (h : size < 1 ∨ 1073741824 < size) : qMay kind agg size slide bs rank = false := by
  unfold qMay; rw [decide_eq_false (show ¬ (1 ≤ size ∧ size ≤ 1073741824) by omega), Bool.false_and]
theorem q_slide {agg size slide : Int} {bs : List Int} {rank : Int} (h : slide < 1 ∨ size < slide ∨ 64 ≤ (size - 1) / slide ∨ 256 < size / ((Nat.gcd size.toNat slide.toNat : Nat) : Int)) : qMay 1 agg size slide bs rank = false := by
  unfold qMay; rw [if_pos rfl]
  have : sMay size slide = false := by unfold sMay; exact decide_eq_false (fun ⟨a, b, c, d⟩ => by omega)
  rw [this, Bool.and_false, Bool.and_false]
theorem q_tums {kind agg size slide : Int} {bs : List Int} {rank : Int} (h : kind ≠ 1) (h2 : slide ≠ 0) : qMay kind agg size slide bs rank = false := by
  unfold qMay; rw [if_neg h, decide_eq_false (show ¬ ((kind = 0 ∨ kind = 2) ∧ slide = 0) by omega), Bool.and_false, Bool.and_false]
theorem a_no {agg : Int} {bs : List Int} {rank : Int} (h : ¬ (0 ≤ agg ∧ agg ≤ 7 ∧ (agg = 7 ∨ rank = 0) ∧ 0 ≤ rank ∧ rank ≤ 1000 ∧ (6 ≤ agg ↔ 0 < bs.length))) : aMay agg bs rank = false := by
  unfold aMay; rw [decide_eq_false h, Bool.false_and]
theorem b_long {agg : Int} {bs : List Int} {rank : Int} (h : 8 < bs.length) : aMay agg bs rank = false := by
  unfold aMay bMay; rw [decide_eq_false (show ¬ bs.length ≤ 8 by omega), Bool.false_and, Bool.and_false]
theorem q_good : qMay 1 7 10 4 [1, 2] 500 = true := by kernel_rfl
theorem q_22 : qMay 1 7 10 4 [2, 2] 500 = false := by kernel_rfl
theorem WindowForms : bournelaw4_WindowForms.Pure := by
  intro a0 a1 h0 h1
  refine ⟨4, ?_⟩
  have e1 := and_m a1 10 1023 1024 (by omega) rfl rfl
  unfold bournelaw4_WindowForms.f
  rw [awake_eq 4 (by omega), Option.bind_some, if_pos rfl, e1]
  have b1 : 0 ≤ a1 % 1024 := Int.emod_nonneg _ (by omega)
  have b2 : a1 % 1024 < 1024 := Int.emod_lt_of_pos _ (by omega)
  generalize a1 % 1024 = x at *
  generalize Int.tmod (IntKind.u64.wrap a0) 18 = c
  rw [w64_id (n := 1 + x) (by omega) (by omega)]
  generalize hd : 1 + x = d
  have d1 : 1 ≤ d := by omega
  have d2 : d ≤ 1024 := by omega
  clear e1 b1 b2 hd
  rw [Option.bind_some, show window_May.f 1 7 10 4 [1, 2] 500 = some (qMay 1 7 10 4 [1, 2] 500) from rfl, q_good, Option.bind_some]
  rw [w64_id (n := 2 + d) (by omega) (by omega), w64_id (n := -d) (by omega) (by omega), w64_id (n := 7 + d) (by omega) (by omega), w64_id (n := 1 - d) (by omega) (by omega), w64_id (n := 1073741824 + d) (by omega) (by omega), w64_id (n := 10 + d) (by omega) (by omega), w64_id (n := 1000 + d) (by omega) (by omega), w64_id (n := 256 + d) (by omega) (by omega), w64_id (n := 8 + d) (by omega) (by omega)]
  by_cases c0 : c = 0
  · rw [if_pos c0]; exact q_fin _ _ _ _ _ _ (q_kind (by omega))
  rw [if_neg c0]
  by_cases c1 : c = 1
  · rw [if_pos c1]; exact q_fin _ _ _ _ _ _ (q_kind (by omega))
  rw [if_neg c1]
  by_cases c2 : c = 2
  · rw [if_pos c2]; exact q_fin _ _ _ _ _ _ (q_agg (a_no (by omega)))
  rw [if_neg c2]
  by_cases c3 : c = 3
  · rw [if_pos c3]; exact q_fin _ _ _ _ _ _ (q_agg (a_no (by omega)))
  rw [if_neg c3]
  by_cases c4 : c = 4
  · rw [if_pos c4]; exact q_fin _ _ _ _ _ _ (q_size (by omega))
  rw [if_neg c4]
  by_cases c5 : c = 5
  · rw [if_pos c5]; exact q_fin _ _ _ _ _ _ (q_size (by omega))
  rw [if_neg c5]
  by_cases c6 : c = 6
  · rw [if_pos c6]; exact q_fin _ _ _ _ _ _ (q_slide (by omega))
  rw [if_neg c6]
  by_cases c7 : c = 7
  · rw [if_pos c7]; exact q_fin _ _ _ _ _ _ (q_slide (by omega))
  rw [if_neg c7]
  by_cases c8 : c = 8
  · rw [if_pos c8]; exact q_fin _ _ _ _ _ _ (q_agg (a_no (by simp)))
  rw [if_neg c8]
  by_cases c9 : c = 9
  · rw [if_pos c9, Option.bind_some]; exact q_fin _ _ _ _ _ _ q_22
  rw [if_neg c9]
  by_cases c10 : c = 10
  · rw [if_pos c10]; exact q_fin _ _ _ _ _ _ (q_agg (a_no (by omega)))
  rw [if_neg c10]
  by_cases c11 : c = 11
  · rw [if_pos c11]; exact q_fin _ _ _ _ _ _ (q_agg (a_no (by omega)))
  rw [if_neg c11]
  by_cases c12 : c = 12
  · rw [if_pos c12]; exact q_fin _ _ _ _ _ _ (q_agg (a_no (by simp)))
  rw [if_neg c12]
  by_cases c13 : c = 13
  · rw [if_pos c13]; exact q_fin _ _ _ _ _ _ (q_tums (by omega) (by omega))
  rw [if_neg c13]
  by_cases c14 : c = 14
  · rw [if_pos c14]; exact q_fin _ _ _ _ _ _ (q_tums (by omega) (by omega))
  rw [if_neg c14]
  by_cases c15 : c = 15
  · rw [if_pos c15]; exact q_fin _ _ _ _ _ _ (q_slide (by omega))
  rw [if_neg c15]
  by_cases c16 : c = 16
  · rw [if_pos c16]; exact q_fin _ _ _ _ _ _ (q_slide (by right; right; right; decide +kernel))
  rw [if_neg c16, if_pos (by omega), if_pos (by omega), Option.bind_some]
  exact q_fin _ _ _ _ _ _ (q_agg (b_long (by rw [List.length_replicate]; omega)))

end Go.Proofs.Ytejgmbpcnabgjaa.Pure
