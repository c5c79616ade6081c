/- The law SliceForms answers true at any two numbers: queries, times and spans that have no parts. No condition. -/
import Derived.Test.YticgnaladjmdoaaQSliceFormsx5
namespace Go.Proofs.Yticgnaladjmdoaa.Pure
open Go.RowKit Go.Proofs.Yticgnaladjmdoaa.QSliceForms Go.Proofs.YticgnaladjmdoaaW.PrintWords Go.Proofs.YticgnaladjmdoaaW.PrintLast Go.Proofs.YticgnaladjmdoaaW.PrintMore
set_option linter.unusedVariables false
set_option linter.unusedSimpArgs false

/-! ### base -/
theorem wf_i64 {a : Int} (h : (Lit.int .i64 a).wf = true) : -9223372036854775808 ≤ a ∧ a ≤ 9223372036854775807 := by
  simpa [Lit.wf, IntKind.min, IntKind.max, IntKind.signed, IntKind.bits] using h
theorem wrap64_id {n : Int} (h1 : -9223372036854775808 ≤ n) (h2 : n ≤ 9223372036854775807) : wrap64 n = n := by
  unfold wrap64; omega
theorem toNat_ofInt64 (a : Int) : ((BitVec.ofInt 64 a).toNat : Int) = a % 18446744073709551616 := by
  rw [BitVec.toNat_ofInt]
  have h : (0 : Int) ≤ a % ((2 ^ 64 : Nat) : Int) := Int.emod_nonneg _ (by decide)
  rw [Int.toNat_of_nonneg h]; rfl
theorem wrap_i64_nat (n : Nat) (h : n < 9223372036854775808) : IntKind.i64.wrap (n : Int) = (n : Int) := by
  rw [IntKind.wrap_i64]; omega
theorem and_mask (a : Int) (j : Nat) (hj : j ≤ 63) : Go.bits .and .i64 a (2 ^ j - 1) = a % 2 ^ j := by
  have hp : 2 ^ j ≤ 2 ^ 63 := Nat.pow_le_pow_right (by decide) hj
  have hpos : 0 < 2 ^ j := Nat.two_pow_pos j
  have hc : ((2 : Int) ^ j - 1) = ((2 ^ j - 1 : Nat) : Int) := by
    rw [Int.natCast_sub hpos]; simp
  have hd : (2 : Int) ^ j ∣ 18446744073709551616 := ⟨2 ^ (64 - j), by rw [← Int.pow_add]; rw [show j + (64 - j) = 64 by omega]; rfl⟩
  show IntKind.i64.wrap (((BitVec.ofInt 64 a &&& BitVec.ofInt 64 (2 ^ j - 1)).toNat : Nat) : Int) = _
  rw [BitVec.toNat_and, hc, BitVec.ofInt_natCast, BitVec.toNat_ofNat, Nat.mod_eq_of_lt (Nat.lt_of_lt_of_le (Nat.sub_lt hpos (by decide)) (Nat.le_trans hp (by decide))), Nat.and_two_pow_sub_one_eq_mod]
  rw [wrap_i64_nat _ (Nat.lt_of_lt_of_le (Nat.mod_lt _ hpos) hp), Int.natCast_emod, toNat_ofInt64, Int.natCast_pow]
  exact Int.emod_emod_of_dvd a hd
theorem and_m (a : Int) (j : Nat) (m p : Int) (hj : j ≤ 63) (hp : (2 : Int) ^ j = p) (hm : m = p - 1) : Go.bits .and .i64 a m = a % p := by
  subst hm; rw [← hp]; exact and_mask a j hj

/-! ### win5 -/
theorem num_eq (a : Int) : bournelaw0_Num.f a = some a := rfl
theorem rd26_nat (xs : List S26) (i : Nat) : rd_T26 xs (i : Int) = xs.getD i z26 := by unfold rd_T26; rw [Int.toNat_natCast]
theorem same_l0 (xs : List S26) (hn : xs.length ≤ 4611686018427267904) (d : Nat) : ∀ (k i : Nat), i + d = xs.length → d < k → bournelaw0_SameSpans.l0 k xs xs (i : Int) = some true := by
  induction d with
  | zero =>
    intro k i hi hk
    obtain ⟨k, rfl⟩ : ∃ m, k = m + 1 := ⟨k - 1, by omega⟩
    simp only [bournelaw0_SameSpans.l0]
    rw [if_neg (by omega)]
  | succ d ih =>
    intro k i hi hk
    obtain ⟨k, rfl⟩ : ∃ m, k = m + 1 := ⟨k - 1, by omega⟩
    simp only [bournelaw0_SameSpans.l0]
    rw [if_pos (by omega), if_pos (by omega), if_pos (by omega), if_neg (by simp), w64_id (by omega) (by omega)]
    exact ih k (i + 1) (by omega) (by omega)
theorem same_self (xs : List S26) (hn : xs.length ≤ 4611686018427267904) (k : Nat) (hk : xs.length < k) : bournelaw0_SameSpans.f k xs xs = some true := by
  unfold bournelaw0_SameSpans.f
  rw [if_pos rfl]
  exact same_l0 xs hn xs.length k 0 (by omega) hk
theorem winL_ok {kind agg size slide rank t : Int} {bs : List Int} (h : wMay kind agg size slide bs rank t = true) : winL kind agg size slide bs rank t = (spans (wfirst (wstep kind size slide) size t) (wstep kind size slide) size (wmany (wstep kind size slide) size t), 0) := by
  unfold winL; rw [if_pos h]
theorem winL_no {kind agg size slide rank t : Int} {bs : List Int} (h : wMay kind agg size slide bs rank t = false) : winL kind agg size slide bs rank t = ([], 400) := by
  unfold winL; rw [if_neg (by rw [h]; decide)]
theorem spans_get (s k m : Int) (n i : Nat) (h : i < n) : (spans s k m n).getD i z26 = ⟨s + (i : Int) * k, s + (i : Int) * k + m⟩ := by
  unfold spans
  rw [List.getD_eq_getElem?_getD, List.getElem?_map, List.getElem?_range h]; rfl
theorem wmany_pos (k m t : Int) (hk : 1 ≤ k) (hkm : k ≤ m) : 1 ≤ wmany k m t := by
  have hf := wfirst_in k m t hk
  have := (wmany_le k m t hk hkm 0).1 (by omega)
  omega
theorem wstep_sl (size slide : Int) : wstep 1 size slide = slide := by unfold wstep; rw [if_pos rfl]
theorem wstep_tu (size slide : Int) : wstep 0 size slide = size := by unfold wstep; rw [if_neg (by omega)]

/-! ### slice5f -/
/-- The part that holds a time. -/
def atL (kind agg size slide : Int) (bs : List Int) (rank t : Int) : Int × Int × Int :=
  if uMay kind agg size slide bs rank = true ∧ -1099511627776 ≤ t ∧ t ≤ 1099511627776 then (t - t % uOf kind size slide, t - t % uOf kind size slide + uOf kind size slide, 0) else (0, 0, 500)
theorem time5_eq (t : Int) : window_TimeMay.f t = some (decide (-1099511627776 ≤ t ∧ t ≤ 1099511627776)) := by
  unfold window_TimeMay.f
  by_cases c : t ≥ -1099511627776
  · rw [if_pos c]; congr 1; exact decide_eq_decide.2 (by omega)
  · rw [if_neg c]; congr 1; symm; exact decide_eq_false (by omega)
theorem at5_eq (kind agg size slide : Int) (bs : List Int) (rank t : Int) (k : Nat) (hk : 1073741840 ≤ k) : slice_At.f k kind agg size slide bs rank t = some (atL kind agg size slide bs rank t) := by
  unfold slice_At.f atL
  rw [unit_eq kind agg size slide bs rank k hk, Option.bind_some]
  have hp := @uMay_parts kind agg size slide rank bs
  unfold unitL
  generalize uMay kind agg size slide bs rank = um at *
  cases um with
  | false => rw [if_neg (show ¬ (false = true) by decide), if_neg (show ¬ (false = true ∧ _) from fun h => Bool.noConfusion h.1)]; rfl
  | true =>
    rw [if_pos rfl, time5_eq, Option.bind_some]
    obtain ⟨_, _, p1, p2, p3, p4, _⟩ := hp rfl
    dsimp only
    rw [if_pos rfl]
    by_cases c : -1099511627776 ≤ t ∧ t ≤ 1099511627776
    · rw [if_pos (decide_eq_true c), if_pos ⟨rfl, c.1, c.2⟩, mod_eq p3 (by omega), Option.bind_some]
      have h0 := Int.emod_nonneg t (show uOf kind size slide ≠ 0 by omega)
      have h1 := Int.emod_lt_of_pos t (show 0 < uOf kind size slide by omega)
      dsimp only
      rw [w64_id (n := t - t % uOf kind size slide) (by omega) (by omega), w64_id (by omega) (by omega)]
    · rw [if_neg (by simpa using c), if_neg (fun h => c h.2)]
theorem av2 : atL 1 0 6 4 [] 0 (-1) = (-2, 0, 0) := by kernel_rfl

/-! ### awake5 -/
theorem av1 : unitL 1 0 6 4 [] 0 = (2, 0) := by kernel_rfl
theorem av3 : cutL 1 0 6 4 [] 0 (-4) 2 = ([(⟨(-4), (-2)⟩ : S26), (⟨(-2), 0⟩ : S26), (⟨0, 2⟩ : S26)], 0) := by kernel_rfl
theorem av4 : cutL 1 0 6 4 [] 0 (-3) 3 = (([] : List S26), 500) := by kernel_rfl
theorem av5 : unitL 2 0 2 0 [] 0 = (0, 500) := by kernel_rfl
theorem awake5_eq (k : Nat) (hk : 1073741850 ≤ k) (hat : slice_At.f k 1 0 6 4 ([] : List Int) 0 (-1) = some (-2, 0, 0)) : bournelaw5_awake.f k = some true := by
  unfold bournelaw5_awake.f slice_Cut.f
  rw [unit_eq 1 0 6 4 [] 0 k (by omega), unit_eq 2 0 2 0 [] 0 k (by omega), av1, av3, av4, av5, hat]
  simp only [Option.bind_some, num_eq, if_true]
  rw [same_self _ (by simp) k (by simp; omega)]
  rfl

theorem g_good : cutL 1 0 10 4 [] 0 8 18 = ([(⟨8, 10⟩ : S26), ⟨10, 12⟩, ⟨12, 14⟩, ⟨14, 16⟩, ⟨16, 18⟩], 0) := by kernel_rfl
theorem g_ses : unitL 2 0 5 0 [] 0 = (0, 500) := by kernel_rfl
theorem g_step : wstep 1 10 4 = 4 := by kernel_rfl
theorem g_slide0 : uMay 1 0 10 0 [] 0 = false := by kernel_rfl
theorem g_kind2 : uMay 2 0 10 4 [] 0 = false := by kernel_rfl
theorem at_out (kind agg size slide : Int) (bs : List Int) (rank t : Int) (h : 1099511627776 < t) : atL kind agg size slide bs rank t = (0, 0, 500) := by
  unfold atL; rw [if_neg (fun q => by omega)]
theorem cut_no (kind agg size slide : Int) (bs : List Int) (rank s e : Int) (h : cutMay kind agg size slide bs rank s e = false) : cutL kind agg size slide bs rank s e = ([], 500) := by
  unfold cutL; rw [h, if_neg (by decide)]
theorem cut_is (s e : Int) (h : ¬ (s ≤ 1099511627776 ∧ -1099511627776 - 10 < s ∧ e = s + 10)) : cutL 1 0 10 4 [] 0 s e = ([], 500) := by
  apply cut_no; unfold cutMay isB; rw [decide_eq_false h, Bool.false_and, Bool.and_false]
theorem cut_may (kind slide : Int) (h : uMay kind 0 10 slide [] 0 = false) : cutL kind 0 10 slide [] 0 8 18 = ([], 500) := by
  apply cut_no; unfold cutMay; rw [h, Bool.false_and]
theorem forms_fin (K : Nat) (xs : List S26) (hx : xs.length = 5) (a0 a1 a2 a3 a5 s e : Int) (h : cutL a0 a1 a2 a3 [] a5 s e = ([], 500)) : bournelaw5_SliceForms.j0 (K + 1) xs 0 500 500 a0 a1 a2 a3 a5 s e = some true := by
  simp only [bournelaw5_SliceForms.j0]
  unfold slice_Cut.f
  rw [h]
  simp [num_eq, hx]
theorem SliceForms : bournelaw5_SliceForms.Pure := by
  intro a0 a1 h0 h1
  refine ⟨1073741851, ?_⟩
  generalize hK : 1073741851 = K
  have hK2 : 1073741851 ≤ K := by omega
  clear hK
  have ha := awake5_eq K (by omega) (by rw [at5_eq _ _ _ _ _ _ _ K (by omega), av2])
  have e1 := and_m a1 10 1023 1024 (by omega) rfl rfl
  unfold bournelaw5_SliceForms.f
  rw [ha, Option.bind_some, if_pos rfl, e1]
  have b1 : 0 ≤ a1 % 1024 := Int.emod_nonneg _ (by omega)
  have b2 : a1 % 1024 < 1024 := Int.emod_lt_of_pos _ (by omega)
  generalize a1 % 1024 = x at *
  generalize Int.tmod (IntKind.u64.wrap a0) 7 = c
  rw [w64_id (n := 1 + x) (by omega) (by omega)]
  generalize hd : 1 + x = d
  have d1 : 1 ≤ d := by omega
  have d2 : d ≤ 1024 := by omega
  clear e1 b1 b2 hd
  rw [show slice_Cut.f 1 0 10 4 [] 0 8 18 = some (cutL 1 0 10 4 [] 0 8 18) from rfl, g_good, Option.bind_some, w64_id (n := 1099511627776 + d) (by omega) (by omega), at5_eq _ _ _ _ _ _ _ K (by omega), at_out _ _ _ _ _ _ _ (by omega), Option.bind_some, unit_eq 2 0 5 0 [] 0 K (by omega), g_ses, Option.bind_some]
  have t1 : 0 ≤ Int.tmod d 3 := Int.tmod_nonneg _ (by omega)
  have t2 : Int.tmod d 3 < 3 := Int.tmod_lt_of_pos _ (by omega)
  obtain ⟨K, rfl⟩ : ∃ q, K = q + 1 := ⟨K - 1, by omega⟩
  rw [w64_id (n := 9 + Int.tmod d 3) (by omega) (by omega), w64_id (n := 18 + d) (by omega) (by omega), w64_id (n := 18 - d) (by omega) (by omega), w64_id (n := 4 * d) (by omega) (by omega), w64_id (n := -1099511627788 - 4 * d) (by omega) (by omega), w64_id (n := -1099511627778 - 4 * d) (by omega) (by omega), w64_id (n := 1099511627776 + 4 * d) (by omega) (by omega), w64_id (n := 1099511627786 + 4 * d) (by omega) (by omega)]
  dsimp only
  generalize Int.tmod d 3 = r at *
  by_cases c0 : c = 0
  · rw [if_pos c0]; exact forms_fin K _ rfl _ _ _ _ _ _ _ (cut_is _ _ (by omega))
  rw [if_neg c0]
  by_cases c1 : c = 1
  · rw [if_pos c1]; exact forms_fin K _ rfl _ _ _ _ _ _ _ (cut_is _ _ (by omega))
  rw [if_neg c1]
  by_cases c2 : c = 2
  · rw [if_pos c2]; exact forms_fin K _ rfl _ _ _ _ _ _ _ (cut_is _ _ (by omega))
  rw [if_neg c2]
  by_cases c3 : c = 3
  · rw [if_pos c3]; exact forms_fin K _ rfl _ _ _ _ _ _ _ (cut_is _ _ (by omega))
  rw [if_neg c3]
  by_cases c4 : c = 4
  · rw [if_pos c4]; exact forms_fin K _ rfl _ _ _ _ _ _ _ (cut_is _ _ (by omega))
  rw [if_neg c4]
  by_cases c5 : c = 5
  · rw [if_pos c5]; exact forms_fin K _ rfl _ _ _ _ _ _ _ (cut_may _ _ g_slide0)
  rw [if_neg c5]
  exact forms_fin K _ rfl _ _ _ _ _ _ _ (cut_may _ _ g_kind2)

end Go.Proofs.Yticgnaladjmdoaa.Pure
