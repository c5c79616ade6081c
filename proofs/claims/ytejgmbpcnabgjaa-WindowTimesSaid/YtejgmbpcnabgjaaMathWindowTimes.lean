/- The law WindowTimes answers true at any two numbers: times beyond the greatest one have no windows, at it they have one. No condition. -/
import Derived.Test.YtejgmbpcnabgjaaQWindowTimesx4
namespace Go.Proofs.Ytejgmbpcnabgjaa.Pure
open Go.RowKit Go.Proofs.Ytejgmbpcnabgjaa.QWindowTimes Go.Proofs.YtejgmbpcnabgjaaW.PrintWords Go.Proofs.YtejgmbpcnabgjaaW.PrintLast Go.Proofs.YtejgmbpcnabgjaaW.PrintMore
set_option linter.unusedVariables false
set_option linter.unusedSimpArgs false

/-! ### base -/
theorem wf_i64 {a : Int} (h : (Lit.int .i64 a).wf = true) : -9223372036854775808 ≤ a ∧ a ≤ 9223372036854775807 := by
  simpa [Lit.wf, IntKind.min, IntKind.max, IntKind.signed, IntKind.bits] using h
theorem wrap64_id {n : Int} (h1 : -9223372036854775808 ≤ n) (h2 : n ≤ 9223372036854775807) : wrap64 n = n := by
  unfold wrap64; omega
theorem toNat_ofInt64 (a : Int) : ((BitVec.ofInt 64 a).toNat : Int) = a % 18446744073709551616 := by
  rw [BitVec.toNat_ofInt]
  have h : (0 : Int) ≤ a % ((2 ^ 64 : Nat) : Int) := Int.emod_nonneg _ (by decide)
  rw [Int.toNat_of_nonneg h]; rfl
theorem wrap_i64_nat (n : Nat) (h : n < 9223372036854775808) : IntKind.i64.wrap (n : Int) = (n : Int) := by
  rw [IntKind.wrap_i64]; omega
theorem and_mask (a : Int) (j : Nat) (hj : j ≤ 63) : Go.bits .and .i64 a (2 ^ j - 1) = a % 2 ^ j := by
  have hp : 2 ^ j ≤ 2 ^ 63 := Nat.pow_le_pow_right (by decide) hj
  have hpos : 0 < 2 ^ j := Nat.two_pow_pos j
  have hc : ((2 : Int) ^ j - 1) = ((2 ^ j - 1 : Nat) : Int) := by
    rw [Int.natCast_sub hpos]; simp
  have hd : (2 : Int) ^ j ∣ 18446744073709551616 := ⟨2 ^ (64 - j), by rw [← Int.pow_add]; rw [show j + (64 - j) = 64 by omega]; rfl⟩
  show IntKind.i64.wrap (((BitVec.ofInt 64 a &&& BitVec.ofInt 64 (2 ^ j - 1)).toNat : Nat) : Int) = _
  rw [BitVec.toNat_and, hc, BitVec.ofInt_natCast, BitVec.toNat_ofNat, Nat.mod_eq_of_lt (Nat.lt_of_lt_of_le (Nat.sub_lt hpos (by decide)) (Nat.le_trans hp (by decide))), Nat.and_two_pow_sub_one_eq_mod]
  rw [wrap_i64_nat _ (Nat.lt_of_lt_of_le (Nat.mod_lt _ hpos) hp), Int.natCast_emod, toNat_ofInt64, Int.natCast_pow]
  exact Int.emod_emod_of_dvd a hd
theorem and_m (a : Int) (j : Nat) (m p : Int) (hj : j ≤ 63) (hp : (2 : Int) ^ j = p) (hm : m = p - 1) : Go.bits .and .i64 a m = a % p := by
  subst hm; rw [← hp]; exact and_mask a j hj

/-! ### win -/
theorem num_eq (a : Int) : bournelaw0_Num.f a = some a := rfl
theorem rd38_nat (xs : List S38) (i : Nat) : rd_T38 xs (i : Int) = xs.getD i z38 := by unfold rd_T38; rw [Int.toNat_natCast]
theorem same_l0 (xs : List S38) (hn : xs.length ≤ 4611686018427387904) (d : Nat) : ∀ (k i : Nat), i + d = xs.length → d < k → bournelaw0_SameSpans.l0 k xs xs (i : Int) = some true := by
  induction d with
  | zero =>
    intro k i hi hk
    obtain ⟨k, rfl⟩ : ∃ m, k = m + 1 := ⟨k - 1, by omega⟩
    simp only [bournelaw0_SameSpans.l0]
    rw [if_neg (by omega)]
  | succ d ih =>
    intro k i hi hk
    obtain ⟨k, rfl⟩ : ∃ m, k = m + 1 := ⟨k - 1, by omega⟩
    simp only [bournelaw0_SameSpans.l0]
    rw [if_pos (by omega), if_pos (by omega), if_pos (by omega), if_neg (by simp), w64_id (by omega) (by omega)]
    exact ih k (i + 1) (by omega) (by omega)
theorem same_self (xs : List S38) (hn : xs.length ≤ 4611686018427387904) (k : Nat) (hk : xs.length < k) : bournelaw0_SameSpans.f k xs xs = some true := by
  unfold bournelaw0_SameSpans.f
  rw [if_pos rfl]
  exact same_l0 xs hn xs.length k 0 (by omega) hk
theorem aw1 : winL 1 0 5 2 [] 0 4 = ([(⟨0, 5⟩ : S38), (⟨2, 7⟩ : S38), (⟨4, 9⟩ : S38)], 0) := by kernel_rfl
theorem aw2 : winL 2 0 5 0 [] 0 4 = (([] : List S38), 400) := by kernel_rfl
theorem aw3 : winL 0 0 10 0 [] 0 (-1) = ([(⟨(-10), 0⟩ : S38)], 0) := by kernel_rfl
theorem aw4 : qMay 1 0 5 2 [] 0 = true := by kernel_rfl
theorem aw5 : qMay 0 0 0 0 [] 0 = false := by kernel_rfl
theorem awake_eq (k : Nat) (hk : 4 ≤ k) : bournelaw4_awake.f k = some true := by
  unfold bournelaw4_awake.f window_Of.f window_May.f
  rw [aw1, aw2, aw3, aw4, aw5]
  simp only [Option.bind_some]
  rw [same_self _ (by simp) k (by simp; omega)]
  simp only [Option.bind_some, num_eq, if_true]
  rw [same_self _ (by simp) k (by simp; omega)]
  simp
theorem winL_ok {kind agg size slide rank t : Int} {bs : List Int} (h : wMay kind agg size slide bs rank t = true) : winL kind agg size slide bs rank t = (spans (wfirst (wstep kind size slide) size t) (wstep kind size slide) size (wmany (wstep kind size slide) size t), 0) := by
  unfold winL; rw [if_pos h]
theorem winL_no {kind agg size slide rank t : Int} {bs : List Int} (h : wMay kind agg size slide bs rank t = false) : winL kind agg size slide bs rank t = ([], 400) := by
  unfold winL; rw [if_neg (by rw [h]; decide)]
theorem spans_get (s k m : Int) (n i : Nat) (h : i < n) : (spans s k m n).getD i z38 = ⟨s + (i : Int) * k, s + (i : Int) * k + m⟩ := by
  unfold spans
  rw [List.getD_eq_getElem?_getD, List.getElem?_map, List.getElem?_range h]; rfl
theorem wmany_pos (k m t : Int) (hk : 1 ≤ k) (hkm : k ≤ m) : 1 ≤ wmany k m t := by
  have hf := wfirst_in k m t hk
  have := (wmany_le k m t hk hkm 0).1 (by omega)
  omega
theorem wstep_sl (size slide : Int) : wstep 1 size slide = slide := by unfold wstep; rw [if_pos rfl]
theorem wstep_tu (size slide : Int) : wstep 0 size slide = size := by unfold wstep; rw [if_neg (by omega)]

/-! ### wtum -/
theorem aMay0 : aMay 0 [] 0 = true := by kernel_rfl
theorem q_tum (m : Int) (h1 : 1 ≤ m) (h2 : m ≤ 1073741824) : qMay 0 0 m 0 [] 0 = true := by
  unfold qMay
  rw [aMay0, decide_eq_true ⟨h1, h2⟩, if_neg (by omega)]
  rfl
theorem w_tum (m t : Int) (h1 : 1 ≤ m) (h2 : m ≤ 1073741824) (h3 : -1099511627776 ≤ t) (h4 : t ≤ 1099511627776) : winL 0 0 m 0 [] 0 t = ([⟨wfirst m m t, wfirst m m t + m⟩], 0) := by
  have hw : wMay 0 0 m 0 [] 0 t = true := by unfold wMay; rw [q_tum m h1 h2, decide_eq_true ⟨by omega, h3, h4⟩]; rfl
  rw [winL_ok hw, wstep_tu]
  have hf := wfirst_in m m t h1
  have hp := wmany_pos m m t h1 (by omega)
  have h := wmany_le m m t h1 (by omega) 1
  have hN : wmany m m t = 1 := by
    have : ¬ (1 < wmany m m t) := fun q => by have := h.2 q; omega
    omega
  rw [hN]
  have e := spans_snoc (wfirst m m t) m m 0
  rw [show spans (wfirst m m t) m m 0 = [] by unfold spans; rfl] at e
  rw [e]
  simp
theorem w_out (m t : Int) (h : t < -1099511627776 ∨ 1099511627776 < t) : winL 0 0 m 0 [] 0 t = ([], 400) := by
  apply winL_no
  unfold wMay
  rw [decide_eq_false (show ¬ ((0 : Int) ≠ 2 ∧ -1099511627776 ≤ t ∧ t ≤ 1099511627776) by omega), Bool.and_false]

theorem WindowTimes : bournelaw4_WindowTimes.Pure := by
  intro a0 a1 h0 h1
  refine ⟨4, ?_⟩
  have e1 := and_m a1 10 1023 1024 (by omega) rfl rfl
  have e0 := and_m a0 10 1023 1024 (by omega) rfl rfl
  unfold bournelaw4_WindowTimes.f window_Of.f
  rw [awake_eq 4 (by omega), Option.bind_some, if_pos rfl, e0, e1]
  have b1 : 0 ≤ a1 % 1024 := Int.emod_nonneg _ (by omega)
  have b2 : a1 % 1024 < 1024 := Int.emod_lt_of_pos _ (by omega)
  have b3 : 0 ≤ a0 % 1024 := Int.emod_nonneg _ (by omega)
  have b4 : a0 % 1024 < 1024 := Int.emod_lt_of_pos _ (by omega)
  generalize a1 % 1024 = x at *
  generalize a0 % 1024 = y at *
  rw [w64_id (n := 1 + x) (by omega) (by omega), w64_id (n := 1 + y) (by omega) (by omega), w64_id (n := 1099511627776 + (1 + y)) (by omega) (by omega), w64_id (n := -1099511627776 - (1 + y)) (by omega) (by omega)]
  rw [w_out (1 + x) _ (by omega), w_out (1 + x) _ (by omega), w_tum (1 + x) 1099511627776 (by omega) (by omega) (by omega) (by omega), w_tum (1 + x) (-1099511627776) (by omega) (by omega) (by omega) (by omega)]
  have f1 := wfirst_in (1 + x) (1 + x) 1099511627776 (by omega)
  have f2 := wfirst_in (1 + x) (1 + x) (-1099511627776) (by omega)
  generalize wfirst (1 + x) (1 + x) 1099511627776 = s at *
  generalize wfirst (1 + x) (1 + x) (-1099511627776) = u at *
  simp only [Option.bind_some, num_eq, List.length_singleton, Int.natCast_one, if_true]
  have g1 : rd_T38 [(⟨s, s + (1 + x)⟩ : S38)] 0 = ⟨s, s + (1 + x)⟩ := rfl
  have g2 : rd_T38 [(⟨u, u + (1 + x)⟩ : S38)] 0 = ⟨u, u + (1 + x)⟩ := rfl
  rw [g1, g2]
  dsimp only
  rw [if_pos (by omega), if_pos (by omega), if_pos (by omega), if_pos (by omega), if_pos (by omega), decide_eq_true (by omega)]

end Go.Proofs.Ytejgmbpcnabgjaa.Pure
