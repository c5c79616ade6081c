/- The law WindowMany answers true at any three numbers: a time lies in as many windows as its size by the slide, up or down. No condition. -/
import Derived.Test.YtejgmbpcnabgjaaQWindowManyx4
namespace Go.Proofs.Ytejgmbpcnabgjaa.Pure
open Go.RowKit Go.Proofs.Ytejgmbpcnabgjaa.QWindowMany Go.Proofs.YtejgmbpcnabgjaaW.PrintWords Go.Proofs.YtejgmbpcnabgjaaW.PrintLast Go.Proofs.YtejgmbpcnabgjaaW.PrintMore
set_option linter.unusedVariables false
set_option linter.unusedSimpArgs false

/-! ### base -/
theorem wf_i64 {a : Int} (h : (Lit.int .i64 a).wf = true) : -9223372036854775808 ≤ a ∧ a ≤ 9223372036854775807 := by
  simpa [Lit.wf, IntKind.min, IntKind.max, IntKind.signed, IntKind.bits] using h
theorem wrap64_id {n : Int} (h1 : -9223372036854775808 ≤ n) (h2 : n ≤ 9223372036854775807) : wrap64 n = n := by
  unfold wrap64; omega
theorem toNat_ofInt64 (a : Int) : ((BitVec.ofInt 64 a).toNat : Int) = a % 18446744073709551616 := by
  rw [BitVec.toNat_ofInt]
  have h : (0 : Int) ≤ a % ((2 ^ 64 : Nat) : Int) := Int.emod_nonneg _ (by decide)
  rw [Int.toNat_of_nonneg h]; rfl
theorem wrap_i64_nat (n : Nat) (h : n < 9223372036854775808) : IntKind.i64.wrap (n : Int) = (n : Int) := by
  rw [IntKind.wrap_i64]; omega
theorem and_mask (a : Int) (j : Nat) (hj : j ≤ 63) : Go.bits .and .i64 a (2 ^ j - 1) = a % 2 ^ j := by
  have hp : 2 ^ j ≤ 2 ^ 63 := Nat.pow_le_pow_right (by decide) hj
  have hpos : 0 < 2 ^ j := Nat.two_pow_pos j
  have hc : ((2 : Int) ^ j - 1) = ((2 ^ j - 1 : Nat) : Int) := by
    rw [Int.natCast_sub hpos]; simp
  have hd : (2 : Int) ^ j ∣ 18446744073709551616 := ⟨2 ^ (64 - j), by rw [← Int.pow_add]; rw [show j + (64 - j) = 64 by omega]; rfl⟩
  show IntKind.i64.wrap (((BitVec.ofInt 64 a &&& BitVec.ofInt 64 (2 ^ j - 1)).toNat : Nat) : Int) = _
  rw [BitVec.toNat_and, hc, BitVec.ofInt_natCast, BitVec.toNat_ofNat, Nat.mod_eq_of_lt (Nat.lt_of_lt_of_le (Nat.sub_lt hpos (by decide)) (Nat.le_trans hp (by decide))), Nat.and_two_pow_sub_one_eq_mod]
  rw [wrap_i64_nat _ (Nat.lt_of_lt_of_le (Nat.mod_lt _ hpos) hp), Int.natCast_emod, toNat_ofInt64, Int.natCast_pow]
  exact Int.emod_emod_of_dvd a hd
theorem and_m (a : Int) (j : Nat) (m p : Int) (hj : j ≤ 63) (hp : (2 : Int) ^ j = p) (hm : m = p - 1) : Go.bits .and .i64 a m = a % p := by
  subst hm; rw [← hp]; exact and_mask a j hj

/-! ### win -/
theorem num_eq (a : Int) : bournelaw0_Num.f a = some a := rfl
theorem rd38_nat (xs : List S38) (i : Nat) : rd_T38 xs (i : Int) = xs.getD i z38 := by unfold rd_T38; rw [Int.toNat_natCast]
theorem same_l0 (xs : List S38) (hn : xs.length ≤ 4611686018427387904) (d : Nat) : ∀ (k i : Nat), i + d = xs.length → d < k → bournelaw0_SameSpans.l0 k xs xs (i : Int) = some true := by
  induction d with
  | zero =>
    intro k i hi hk
    obtain ⟨k, rfl⟩ : ∃ m, k = m + 1 := ⟨k - 1, by omega⟩
    simp only [bournelaw0_SameSpans.l0]
    rw [if_neg (by omega)]
  | succ d ih =>
    intro k i hi hk
    obtain ⟨k, rfl⟩ : ∃ m, k = m + 1 := ⟨k - 1, by omega⟩
    simp only [bournelaw0_SameSpans.l0]
    rw [if_pos (by omega), if_pos (by omega), if_pos (by omega), if_neg (by simp), w64_id (by omega) (by omega)]
    exact ih k (i + 1) (by omega) (by omega)
theorem same_self (xs : List S38) (hn : xs.length ≤ 4611686018427387904) (k : Nat) (hk : xs.length < k) : bournelaw0_SameSpans.f k xs xs = some true := by
  unfold bournelaw0_SameSpans.f
  rw [if_pos rfl]
  exact same_l0 xs hn xs.length k 0 (by omega) hk
theorem aw1 : winL 1 0 5 2 [] 0 4 = ([(⟨0, 5⟩ : S38), (⟨2, 7⟩ : S38), (⟨4, 9⟩ : S38)], 0) := by kernel_rfl
theorem aw2 : winL 2 0 5 0 [] 0 4 = (([] : List S38), 400) := by kernel_rfl
theorem aw3 : winL 0 0 10 0 [] 0 (-1) = ([(⟨(-10), 0⟩ : S38)], 0) := by kernel_rfl
theorem aw4 : qMay 1 0 5 2 [] 0 = true := by kernel_rfl
theorem aw5 : qMay 0 0 0 0 [] 0 = false := by kernel_rfl
theorem awake_eq (k : Nat) (hk : 4 ≤ k) : bournelaw4_awake.f k = some true := by
  unfold bournelaw4_awake.f window_Of.f window_May.f
  rw [aw1, aw2, aw3, aw4, aw5]
  simp only [Option.bind_some]
  rw [same_self _ (by simp) k (by simp; omega)]
  simp only [Option.bind_some, num_eq, if_true]
  rw [same_self _ (by simp) k (by simp; omega)]
  simp
theorem winL_ok {kind agg size slide rank t : Int} {bs : List Int} (h : wMay kind agg size slide bs rank t = true) : winL kind agg size slide bs rank t = (spans (wfirst (wstep kind size slide) size t) (wstep kind size slide) size (wmany (wstep kind size slide) size t), 0) := by
  unfold winL; rw [if_pos h]
theorem winL_no {kind agg size slide rank t : Int} {bs : List Int} (h : wMay kind agg size slide bs rank t = false) : winL kind agg size slide bs rank t = ([], 400) := by
  unfold winL; rw [if_neg (by rw [h]; decide)]
theorem spans_get (s k m : Int) (n i : Nat) (h : i < n) : (spans s k m n).getD i z38 = ⟨s + (i : Int) * k, s + (i : Int) * k + m⟩ := by
  unfold spans
  rw [List.getD_eq_getElem?_getD, List.getElem?_map, List.getElem?_range h]; rfl
theorem wmany_pos (k m t : Int) (hk : 1 ≤ k) (hkm : k ≤ m) : 1 ≤ wmany k m t := by
  have hf := wfirst_in k m t hk
  have := (wmany_le k m t hk hkm 0).1 (by omega)
  omega
theorem wstep_sl (size slide : Int) : wstep 1 size slide = slide := by unfold wstep; rw [if_pos rfl]
theorem wstep_tu (size slide : Int) : wstep 0 size slide = size := by unfold wstep; rw [if_neg (by omega)]

theorem aMay0 : aMay 0 [] 0 = true := by kernel_rfl
theorem q_sl (m k : Int) (h1 : 1 ≤ m) (h2 : m ≤ 1073741824) : qMay 1 0 m k [] 0 = sMay m k := by
  unfold qMay
  rw [aMay0, decide_eq_true ⟨h1, h2⟩, if_pos rfl]
  rfl
theorem many_in (k m t : Int) (hk : 1 ≤ k) (hkm : k ≤ m) : ((wmany k m t : Int) = m / k ∨ (wmany k m t : Int) = (m - 1) / k + 1) ∧ (m % k = 0 → (wmany k m t : Int) = m / k) := by
  have hf := wfirst_in k m t hk
  have h1 := wmany_le k m t hk hkm (wmany k m t)
  have hp := wmany_pos k m t hk hkm
  have h2 := wmany_le k m t hk hkm (wmany k m t - 1)
  generalize wmany k m t = N at *
  generalize wfirst k m t = s at *
  have g1 : ¬ s + (N : Int) * k ≤ t := fun h => absurd (h1.1 h) (by omega)
  have g2 := h2.2 (by omega)
  have e1 : ((N - 1 : Nat) : Int) * k = (N : Int) * k - k := by rw [Int.natCast_sub hp, Int.sub_mul]; omega
  rw [e1] at g2
  have d1 := Int.ediv_mul_le m (show k ≠ 0 by omega)
  have d2 := Int.lt_ediv_add_one_mul_self m (show 0 < k by omega)
  have c1 := Int.ediv_mul_le (m - 1) (show k ≠ 0 by omega)
  have c2 := Int.lt_ediv_add_one_mul_self (m - 1) (show 0 < k by omega)
  have dm := Int.mul_ediv_add_emod m k
  rw [Int.mul_comm] at dm
  have lo : m / k ≤ N := by
    have h : m / k * k < ((N : Int) + 1) * k := by rw [Int.add_mul, Int.one_mul]; omega
    have := Int.lt_of_mul_lt_mul_right h (by omega)
    omega
  have hi : (N : Int) ≤ (m - 1) / k + 1 := by
    have h : ((N : Int) - 1) * k < ((m - 1) / k + 1) * k := by rw [Int.sub_mul, Int.one_mul]; omega
    have := Int.lt_of_mul_lt_mul_right h (by omega)
    omega
  have up : (m - 1) / k ≤ m / k := Int.ediv_le_ediv (by omega) (by omega)
  refine ⟨by omega, fun hz => ?_⟩
  have h : (m - 1) / k * k < m / k * k := by omega
  have := Int.lt_of_mul_lt_mul_right h (by omega)
  omega
theorem ceil_div2 (m k : Int) (hk : 1 ≤ k) : (m + k - 1) / k = (m - 1) / k + 1 := by
  have := Int.add_mul_ediv_right (m - 1) 1 (show k ≠ 0 by omega)
  rw [← this]; congr 1; omega
theorem WindowMany : bournelaw4_WindowMany.Pure := by
  intro a0 a1 a2 h0 h1 h2
  refine ⟨4, ?_⟩
  have e1 := and_m a1 5 31 32 (by omega) rfl rfl
  have e0 := and_m a0 10 1023 1024 (by omega) rfl rfl
  unfold bournelaw4_WindowMany.f window_Of.f window_May.f
  rw [awake_eq 4 (by omega), Option.bind_some, if_pos rfl, e0, e1]
  have b1 : 0 ≤ a1 % 32 := Int.emod_nonneg _ (by omega)
  have b2 : a1 % 32 < 32 := Int.emod_lt_of_pos _ (by omega)
  have b3 : 0 ≤ a0 % 1024 := Int.emod_nonneg _ (by omega)
  generalize a1 % 32 = x at *
  generalize a0 % 1024 = y at *
  have t1 := Int.tmod_lt_of_pos a2 (show (0 : Int) < 1000000 by omega)
  have t2 : -1000000 < Int.tmod a2 1000000 := by
    have := Int.tmod_lt_of_pos (-a2) (show (0 : Int) < 1000000 by omega)
    rw [Int.neg_tmod] at this
    omega
  generalize Int.tmod a2 1000000 = t at *
  rw [w64_id (n := 1 + x) (by omega) (by omega), w64_id (n := 63 * (1 + x)) (by omega) (by omega), if_neg (by omega), Int.tmod_eq_emod_of_nonneg b3]
  have m1 : 0 ≤ y % (63 * (1 + x)) := Int.emod_nonneg _ (by omega)
  have m2 : y % (63 * (1 + x)) < 63 * (1 + x) := Int.emod_lt_of_pos _ (by omega)
  generalize y % (63 * (1 + x)) = z at *
  rw [w64_id (n := 1 + x + z) (by omega) (by omega)]
  obtain ⟨k, hk⟩ : ∃ k, k = 1 + x := ⟨_, rfl⟩
  obtain ⟨m, hm⟩ : ∃ m, m = 1 + x + z := ⟨_, rfl⟩
  rw [← hm, ← hk]
  have k1 : 1 ≤ k := by omega
  have k2 : k ≤ m := by omega
  have k3 : m ≤ 2048 := by omega
  have k4 : (m - 1) / k < 64 := Int.ediv_lt_of_lt_mul (by omega) (by omega)
  have k5 : k ≤ 32 := by omega
  clear hk hm m1 m2 b1 b2 b3 e0 e1 h0 h1 h2
  have hq := q_sl m k (by omega) (by omega)
  have hw : wMay 1 0 m k [] 0 t = sMay m k := by unfold wMay; rw [hq, decide_eq_true ⟨by omega, by omega, by omega⟩, Bool.and_true]
  rw [hq]
  by_cases c : m / ((Nat.gcd m.toNat k.toNat : Nat) : Int) ≤ 256
  · have hs : sMay m k = true := by unfold sMay; exact decide_eq_true ⟨k1, k2, k4, c⟩
    rw [hs] at hw ⊢
    rw [winL_ok hw, wstep_sl]
    simp only [Option.bind_some, num_eq, if_true]
    rw [spans_len, if_neg (by omega)]
    have hN := many_in k m t k1 k2
    have hd := Int.ediv_nonneg (show 0 ≤ m by omega) (show 0 ≤ k by omega)
    have hd2 := Int.ediv_le_self k (show 0 ≤ m by omega)
    have hc := ceil_div2 m k k1
    have hc0 := Int.ediv_nonneg (show 0 ≤ m - 1 by omega) (show 0 ≤ k by omega)
    rw [Int.tdiv_eq_ediv_of_nonneg (by omega), w64_id (n := m / k) (by omega) (by omega), Int.tmod_eq_emod_of_nonneg (by omega), w64_id (n := m + k) (by omega) (by omega), w64_id (n := m + k - 1) (by omega) (by omega), Int.tdiv_eq_ediv_of_nonneg (by omega), hc, w64_id (n := (m - 1) / k + 1) (by omega) (by omega)]
    by_cases q1 : (wmany k m t : Int) = m / k
    · rw [if_pos q1]
      by_cases q2 : m % k = 0
      · rw [if_pos q2, beq_iff_eq.2 q1]
      · rw [if_neg q2]
    · rw [if_neg q1]
      have q3 : (wmany k m t : Int) = (m - 1) / k + 1 := by rcases hN.1 with h | h; exact absurd h q1; exact h
      rw [if_pos q3, if_neg (fun h => q1 (hN.2 h))]
  · have hs : sMay m k = false := by unfold sMay; exact decide_eq_false (fun h => c h.2.2.2)
    rw [hs] at hw ⊢
    rw [winL_no hw]
    simp only [Option.bind_some, num_eq, if_true]
    have hg := gcd_pos (b := k) (show 1 ≤ m by omega)
    have := Int.ediv_le_self ((Nat.gcd m.toNat k.toNat : Nat) : Int) (show 0 ≤ m by omega)
    rw [if_neg (by decide), decide_eq_true (by omega)]

end Go.Proofs.Ytejgmbpcnabgjaa.Pure
