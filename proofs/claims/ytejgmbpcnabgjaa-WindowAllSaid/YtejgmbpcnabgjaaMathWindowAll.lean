/- The law WindowAll answers true at any three numbers: just the spans that hold a time and that begin at a multiple, each begin around. No condition. -/
import Derived.Test.YtejgmbpcnabgjaaQWindowAllx5
namespace Go.Proofs.Ytejgmbpcnabgjaa.Pure
open Go.RowKit Go.Proofs.Ytejgmbpcnabgjaa.QWindowAll Go.Proofs.YtejgmbpcnabgjaaW.PrintWords Go.Proofs.YtejgmbpcnabgjaaW.PrintLast Go.Proofs.YtejgmbpcnabgjaaW.PrintMore
set_option linter.unusedVariables false
set_option linter.unusedSimpArgs false

/-! ### base -/
theorem wf_i64 {a : Int} (h : (Lit.int .i64 a).wf = true) : -9223372036854775808 ≤ a ∧ a ≤ 9223372036854775807 := by
  simpa [Lit.wf, IntKind.min, IntKind.max, IntKind.signed, IntKind.bits] using h
theorem wrap64_id {n : Int} (h1 : -9223372036854775808 ≤ n) (h2 : n ≤ 9223372036854775807) : wrap64 n = n := by
  unfold wrap64; omega
theorem toNat_ofInt64 (a : Int) : ((BitVec.ofInt 64 a).toNat : Int) = a % 18446744073709551616 := by
  rw [BitVec.toNat_ofInt]
  have h : (0 : Int) ≤ a % ((2 ^ 64 : Nat) : Int) := Int.emod_nonneg _ (by decide)
  rw [Int.toNat_of_nonneg h]; rfl
theorem wrap_i64_nat (n : Nat) (h : n < 9223372036854775808) : IntKind.i64.wrap (n : Int) = (n : Int) := by
  rw [IntKind.wrap_i64]; omega
theorem and_mask (a : Int) (j : Nat) (hj : j ≤ 63) : Go.bits .and .i64 a (2 ^ j - 1) = a % 2 ^ j := by
  have hp : 2 ^ j ≤ 2 ^ 63 := Nat.pow_le_pow_right (by decide) hj
  have hpos : 0 < 2 ^ j := Nat.two_pow_pos j
  have hc : ((2 : Int) ^ j - 1) = ((2 ^ j - 1 : Nat) : Int) := by
    rw [Int.natCast_sub hpos]; simp
  have hd : (2 : Int) ^ j ∣ 18446744073709551616 := ⟨2 ^ (64 - j), by rw [← Int.pow_add]; rw [show j + (64 - j) = 64 by omega]; rfl⟩
  show IntKind.i64.wrap (((BitVec.ofInt 64 a &&& BitVec.ofInt 64 (2 ^ j - 1)).toNat : Nat) : Int) = _
  rw [BitVec.toNat_and, hc, BitVec.ofInt_natCast, BitVec.toNat_ofNat, Nat.mod_eq_of_lt (Nat.lt_of_lt_of_le (Nat.sub_lt hpos (by decide)) (Nat.le_trans hp (by decide))), Nat.and_two_pow_sub_one_eq_mod]
  rw [wrap_i64_nat _ (Nat.lt_of_lt_of_le (Nat.mod_lt _ hpos) hp), Int.natCast_emod, toNat_ofInt64, Int.natCast_pow]
  exact Int.emod_emod_of_dvd a hd
theorem and_m (a : Int) (j : Nat) (m p : Int) (hj : j ≤ 63) (hp : (2 : Int) ^ j = p) (hm : m = p - 1) : Go.bits .and .i64 a m = a % p := by
  subst hm; rw [← hp]; exact and_mask a j hj

/-! ### win -/
theorem num_eq (a : Int) : bournelaw0_Num.f a = some a := rfl
theorem rd38_nat (xs : List S38) (i : Nat) : rd_T38 xs (i : Int) = xs.getD i z38 := by unfold rd_T38; rw [Int.toNat_natCast]
theorem same_l0 (xs : List S38) (hn : xs.length ≤ 4611686018427387904) (d : Nat) : ∀ (k i : Nat), i + d = xs.length → d < k → bournelaw0_SameSpans.l0 k xs xs (i : Int) = some true := by
  induction d with
  | zero =>
    intro k i hi hk
    obtain ⟨k, rfl⟩ : ∃ m, k = m + 1 := ⟨k - 1, by omega⟩
    simp only [bournelaw0_SameSpans.l0]
    rw [if_neg (by omega)]
  | succ d ih =>
    intro k i hi hk
    obtain ⟨k, rfl⟩ : ∃ m, k = m + 1 := ⟨k - 1, by omega⟩
    simp only [bournelaw0_SameSpans.l0]
    rw [if_pos (by omega), if_pos (by omega), if_pos (by omega), if_neg (by simp), w64_id (by omega) (by omega)]
    exact ih k (i + 1) (by omega) (by omega)
theorem same_self (xs : List S38) (hn : xs.length ≤ 4611686018427387904) (k : Nat) (hk : xs.length < k) : bournelaw0_SameSpans.f k xs xs = some true := by
  unfold bournelaw0_SameSpans.f
  rw [if_pos rfl]
  exact same_l0 xs hn xs.length k 0 (by omega) hk
theorem aw1 : winL 1 0 5 2 [] 0 4 = ([(⟨0, 5⟩ : S38), (⟨2, 7⟩ : S38), (⟨4, 9⟩ : S38)], 0) := by kernel_rfl
theorem aw2 : winL 2 0 5 0 [] 0 4 = (([] : List S38), 400) := by kernel_rfl
theorem aw3 : winL 0 0 10 0 [] 0 (-1) = ([(⟨(-10), 0⟩ : S38)], 0) := by kernel_rfl
theorem aw4 : qMay 1 0 5 2 [] 0 = true := by kernel_rfl
theorem aw5 : qMay 0 0 0 0 [] 0 = false := by kernel_rfl
theorem awake_eq (k : Nat) (hk : 4 ≤ k) : bournelaw4_awake.f k = some true := by
  unfold bournelaw4_awake.f window_Of.f window_May.f
  rw [aw1, aw2, aw3, aw4, aw5]
  simp only [Option.bind_some]
  rw [same_self _ (by simp) k (by simp; omega)]
  simp only [Option.bind_some, num_eq, if_true]
  rw [same_self _ (by simp) k (by simp; omega)]
  simp
theorem winL_ok {kind agg size slide rank t : Int} {bs : List Int} (h : wMay kind agg size slide bs rank t = true) : winL kind agg size slide bs rank t = (spans (wfirst (wstep kind size slide) size t) (wstep kind size slide) size (wmany (wstep kind size slide) size t), 0) := by
  unfold winL; rw [if_pos h]
theorem winL_no {kind agg size slide rank t : Int} {bs : List Int} (h : wMay kind agg size slide bs rank t = false) : winL kind agg size slide bs rank t = ([], 400) := by
  unfold winL; rw [if_neg (by rw [h]; decide)]
theorem spans_get (s k m : Int) (n i : Nat) (h : i < n) : (spans s k m n).getD i z38 = ⟨s + (i : Int) * k, s + (i : Int) * k + m⟩ := by
  unfold spans
  rw [List.getD_eq_getElem?_getD, List.getElem?_map, List.getElem?_range h]; rfl
theorem wmany_pos (k m t : Int) (hk : 1 ≤ k) (hkm : k ≤ m) : 1 ≤ wmany k m t := by
  have hf := wfirst_in k m t hk
  have := (wmany_le k m t hk hkm 0).1 (by omega)
  omega
theorem wstep_sl (size slide : Int) : wstep 1 size slide = slide := by unfold wstep; rw [if_pos rfl]
theorem wstep_tu (size slide : Int) : wstep 0 size slide = size := by unfold wstep; rw [if_neg (by omega)]

/-! ### wtum -/
theorem aMay0 : aMay 0 [] 0 = true := by kernel_rfl
theorem q_tum (m : Int) (h1 : 1 ≤ m) (h2 : m ≤ 1073741824) : qMay 0 0 m 0 [] 0 = true := by
  unfold qMay
  rw [aMay0, decide_eq_true ⟨h1, h2⟩, if_neg (by omega)]
  rfl
theorem w_tum (m t : Int) (h1 : 1 ≤ m) (h2 : m ≤ 1073741824) (h3 : -1099511627776 ≤ t) (h4 : t ≤ 1099511627776) : winL 0 0 m 0 [] 0 t = ([⟨wfirst m m t, wfirst m m t + m⟩], 0) := by
  have hw : wMay 0 0 m 0 [] 0 t = true := by unfold wMay; rw [q_tum m h1 h2, decide_eq_true ⟨by omega, h3, h4⟩]; rfl
  rw [winL_ok hw, wstep_tu]
  have hf := wfirst_in m m t h1
  have hp := wmany_pos m m t h1 (by omega)
  have h := wmany_le m m t h1 (by omega) 1
  have hN : wmany m m t = 1 := by
    have : ¬ (1 < wmany m m t) := fun q => by have := h.2 q; omega
    omega
  rw [hN]
  have e := spans_snoc (wfirst m m t) m m 0
  rw [show spans (wfirst m m t) m m 0 = [] by unfold spans; rfl] at e
  rw [e]
  simp
theorem w_out (m t : Int) (h : t < -1099511627776 ∨ 1099511627776 < t) : winL 0 0 m 0 [] 0 t = ([], 400) := by
  apply winL_no
  unfold wMay
  rw [decide_eq_false (show ¬ ((0 : Int) ≠ 2 ∧ -1099511627776 ≤ t ∧ t ≤ 1099511627776) by omega), Bool.and_false]

theorem q_sl (m k : Int) (h1 : 1 ≤ m) (h2 : m ≤ 1073741824) : qMay 1 0 m k [] 0 = sMay m k := by
  unfold qMay
  rw [aMay0, decide_eq_true ⟨h1, h2⟩, if_pos rfl]
  rfl
theorem first_mult (k m t : Int) : k ∣ wfirst k m t := by
  unfold wfirst
  exact ⟨(t - m) / k + 1, by rw [Int.mul_add, Int.mul_one, Int.mul_comm]⟩
/-- What is known at a begin: so many windows begin below it. -/
def Seen (f k : Int) (N a : Nat) (s : Int) : Prop := a ≤ N ∧ (a = 0 ∨ f + ((a : Int) - 1) * k < s) ∧ (a < N → s ≤ f + (a : Int) * k)
theorem seen_hit {k m t s : Int} {N a : Nat} (hk : 1 ≤ k) (hkm : k ≤ m) (hN : N = wmany k m t) (h : Seen (wfirst k m t) k N a s) (hd : k ∣ s) (h1 : s ≤ t) (h2 : t < s + m) : a < N ∧ s = wfirst k m t + (a : Int) * k := by
  have hf := wfirst_in k m t hk
  obtain ⟨c, hc⟩ := first_mult k m t
  obtain ⟨d, hd⟩ := hd
  obtain ⟨g1, g2, g3⟩ := h
  have hle := fun j => wmany_le k m t hk hkm j
  rw [← hN] at hle
  generalize wfirst k m t = f at *
  have hcd : c ≤ d := by
    have : k * c < k * (d + 1) := by rw [Int.mul_add]; omega
    have := Int.lt_of_mul_lt_mul_left this (by omega)
    omega
  obtain ⟨i, hi⟩ := Int.eq_ofNat_of_zero_le (show 0 ≤ d - c by omega)
  have hs : s = f + (i : Int) * k := by rw [hd, hc, ← hi, Int.sub_mul, Int.mul_comm d k, Int.mul_comm c k]; omega
  have hiN := (hle i).1 (by omega)
  have hai : (a : Int) ≤ i := by
    rcases g2 with rfl | g2
    · omega
    · rw [hs] at g2
      have : ((a : Int) - 1) * k < (i : Int) * k := by omega
      have := Int.lt_of_mul_lt_mul_right this (by omega)
      omega
  have haN : a < N := by omega
  have := g3 haN
  rw [hs] at this
  have h4 : (i : Int) * k ≤ (a : Int) * k := by omega
  have h5 := Int.le_of_mul_le_mul_right h4 (by omega)
  have : i = a := by omega
  subst this
  exact ⟨haN, hs⟩
theorem all_l0 (t k m : Int) (N : Nat) (hk : 1 ≤ k) (hk2 : k ≤ 16) (hkm : k ≤ m) (hm : m ≤ 200) (ht1 : -1000000 ≤ t) (ht2 : t ≤ 1000000) (hN : N = wmany k m t) (r : Option Bool)
    (hend : ∀ K : Nat, ((window_Of.f 0 0 m 0 ([] : List Int) 0 t).bind fun bt166 => (if (N : Int) = ((spans (wfirst k m t) k m N).length : Int) then ((bournelaw0_Num.f bt166.2).bind fun t170 => (if t170 = 0 then (if (bt166.1.length : Int) = 1 then (if 0 < (bt166.1.length : Int) then (if ((rd_T38 bt166.1 0).f0) ≤ t then (if t < ((rd_T38 bt166.1 0).f1) then (if (wrap64 (((rd_T38 bt166.1 0).f1) - ((rd_T38 bt166.1 0).f0))) = m then (if m = 0 then (none) else (some ((Int.tmod ((rd_T38 bt166.1 0).f0) m) == 0))) else (some false)) else (some false)) else (some false)) else (none)) else (some false)) else (some false))) else (some false))) = r)
    (d : Nat) : ∀ (K a : Nat) (s : Int), s + d = t + k + 1 → t - m - k ≤ s → Seen (wfirst k m t) k N a s → 2 * d < K → bournelaw4_WindowAll.l0 K k m t (spans (wfirst k m t) k m N) (a : Int) s = r := by
  induction d with
  | zero =>
    intro K a s hs h1 hS hK
    obtain ⟨K, rfl⟩ : ∃ q, K = q + 1 := ⟨K - 1, by omega⟩
    simp only [bournelaw4_WindowAll.l0]
    rw [w64_id (n := t + k) (by omega) (by omega), if_neg (by omega)]
    obtain ⟨g1, g2, g3⟩ := hS
    have haN : a = N := by
      by_cases c : a < N
      · have h4 := g3 c
        have := (wmany_le k m t hk hkm a).2 (by omega)
        omega
      · omega
    subst haN
    exact hend K
  | succ d ih =>
    intro K a s hs h1 hS hK
    obtain ⟨K, rfl⟩ : ∃ q, K = q + 2 := ⟨K - 2, by omega⟩
    simp only [bournelaw4_WindowAll.l0]
    rw [w64_id (n := t + k) (by omega) (by omega), if_pos (by omega), if_neg (by omega)]
    have hmiss : ¬ (k ∣ s ∧ s ≤ t ∧ t < s + m) → Seen (wfirst k m t) k N a (s + 1) := by
      intro hn
      obtain ⟨g1, g2, g3⟩ := hS
      refine ⟨g1, Or.imp_right (fun q => by omega) g2, fun haN => ?_⟩
      have h4 := g3 haN
      by_cases e : s = wfirst k m t + (a : Int) * k
      · exfalso
        apply hn
        have hf := wfirst_in k m t hk
        have h5 := (wmany_le k m t hk hkm a).2 (by omega)
        have h0 : 0 ≤ (a : Int) * k := Int.mul_nonneg (by omega) (by omega)
        refine ⟨?_, by omega, by omega⟩
        rw [e]
        exact Int.dvd_add (first_mult k m t) (Int.dvd_mul_left _ _)
      · omega
    have hnext : ∀ (a' : Nat), Seen (wfirst k m t) k N a' (s + 1) → bournelaw4_WindowAll.l0 K k m t (spans (wfirst k m t) k m N) (a' : Int) (wrap64 (s + 1)) = r := by
      intro a' hS'
      rw [w64_id (by omega) (by omega)]
      exact ih K a' (s + 1) (by omega) (by omega) hS' (by omega)
    have hskip : ¬ (k ∣ s ∧ s ≤ t ∧ t < s + m) → bournelaw4_WindowAll.j1 (K + 1) k m t (spans (wfirst k m t) k m N) (a : Int) s true = r := by
      intro hn
      simp only [bournelaw4_WindowAll.j1]
      rw [if_pos True.intro]
      exact hnext a (hmiss hn)
    by_cases c1 : Int.tmod s k = 0
    · rw [if_pos c1]
      have hdv : k ∣ s := Int.dvd_of_tmod_eq_zero c1
      by_cases c2 : t < s
      · rw [if_pos c2]
        exact hskip (fun h => by omega)
      · rw [if_neg c2, w64_id (n := s + m) (by omega) (by omega)]
        by_cases c3 : t ≥ s + m
        · rw [decide_eq_true c3]
          exact hskip (fun h => by omega)
        · rw [decide_eq_false c3]
          obtain ⟨haN, hse⟩ := seen_hit hk hkm hN hS hdv (by omega) (by omega)
          simp only [bournelaw4_WindowAll.j1]
          rw [if_neg (by decide), spans_len, if_neg (by omega), if_pos (by omega), if_pos (by omega), rd38_nat, spans_get _ _ _ _ _ haN, w64_id (n := s + m) (by omega) (by omega)]
          dsimp only
          rw [← hse, if_neg (by simp), w64_id (n := (a : Int) + 1) (by omega) (by have := wmany_le k m t hk hkm a; have hf := wfirst_in k m t hk; have h0 := Int.mul_le_mul_of_nonneg_left (show 1 ≤ k by omega) (show 0 ≤ (a : Int) by omega); omega)]
          apply hnext (a + 1)
          refine ⟨by omega, .inr (by rw [Int.natCast_add]; rw [show (a : Int) + ((1 : Nat) : Int) - 1 = a by omega]; omega), fun _ => ?_⟩
          rw [Int.natCast_add, Int.add_mul]
          omega
    · rw [if_neg c1]
      exact hskip (fun h => c1 (Int.tmod_eq_zero_of_dvd h.1))
theorem WindowAll : bournelaw4_WindowAll.Pure := by
  intro a0 a1 a2 h0 h1 h2
  refine ⟨2000, ?_⟩
  generalize hK : 2000 = K
  have hK2 : 2000 ≤ K := by omega
  clear hK
  have e1 := and_m a1 4 15 16 (by omega) rfl rfl
  have e0 := and_m a0 6 63 64 (by omega) rfl rfl
  unfold bournelaw4_WindowAll.f
  rw [awake_eq K (by omega), Option.bind_some, if_pos rfl, e0, e1]
  have b1 : 0 ≤ a1 % 16 := Int.emod_nonneg _ (by omega)
  have b2 : a1 % 16 < 16 := Int.emod_lt_of_pos _ (by omega)
  have b3 : 0 ≤ a0 % 64 := Int.emod_nonneg _ (by omega)
  have b4 : a0 % 64 < 64 := Int.emod_lt_of_pos _ (by omega)
  generalize a1 % 16 = x at *
  generalize a0 % 64 = y at *
  have t1 := Int.tmod_lt_of_pos a2 (show (0 : Int) < 1000000 by omega)
  have t2 : -1000000 < Int.tmod a2 1000000 := by
    have := Int.tmod_lt_of_pos (-a2) (show (0 : Int) < 1000000 by omega)
    rw [Int.neg_tmod] at this
    omega
  generalize Int.tmod a2 1000000 = t at *
  rw [w64_id (n := 1 + x) (by omega) (by omega), w64_id (n := 1 + x + y) (by omega) (by omega), w64_id (n := (1 + x) * 16) (by omega) (by omega)]
  obtain ⟨m, hm⟩ : ∃ m, m = mn (1 + x + y) ((1 + x) * 16) := ⟨_, rfl⟩
  have hmv := hm
  unfold mn at hmv
  obtain ⟨k, hk⟩ : ∃ k, k = 1 + x := ⟨_, rfl⟩
  rw [← hm, ← hk]
  have k1 : 1 ≤ k := by omega
  have k2 : k ≤ m := by split at hmv <;> omega
  have k3 : m ≤ 100 := by split at hmv <;> omega
  have k5 : k ≤ 16 := by omega
  have k6 : m ≤ k * 16 := by split at hmv <;> omega
  clear hm hmv hk
  have k4 : (m - 1) / k < 64 := Int.ediv_lt_of_lt_mul (by omega) (by omega)
  have hg := gcd_pos (b := k) (show 1 ≤ m by omega)
  have hgm := Int.ediv_le_self ((Nat.gcd m.toNat k.toNat : Nat) : Int) (show 0 ≤ m by omega)
  have hs : sMay m k = true := by unfold sMay; exact decide_eq_true ⟨k1, k2, k4, by omega⟩
  have hw : wMay 1 0 m k [] 0 t = true := by unfold wMay; rw [q_sl m k (by omega) (by omega), hs, decide_eq_true ⟨by omega, by omega, by omega⟩]; rfl
  unfold window_Of.f
  rw [winL_ok hw, wstep_sl]
  simp only [Option.bind_some, num_eq, if_true]
  rw [w64_id (n := t - m) (by omega) (by omega), w64_id (n := t - m - k) (by omega) (by omega)]
  have hf := wfirst_in k m t k1
  have hp := wmany_pos k m t k1 k2
  refine all_l0 t k m (wmany k m t) k1 k5 k2 (by omega) (by omega) (by omega) rfl (some true) (fun _ => ?_) (m + 2 * k + 1).toNat K 0 (t - m - k) (by omega) (by omega) ⟨by omega, .inl rfl, fun _ => by omega⟩ (by omega)
  unfold window_Of.f
  rw [w_tum m t (by omega) (by omega) (by omega) (by omega)]
  simp only [Option.bind_some, num_eq, if_true, spans_len, List.length_singleton, Int.natCast_one]
  have g := wfirst_in m m t (by omega)
  have hdv := first_mult m m t
  generalize wfirst m m t = u at *
  have g1 : rd_T38 [(⟨u, u + m⟩ : S38)] 0 = ⟨u, u + m⟩ := rfl
  rw [g1]
  dsimp only
  rw [if_pos (by omega), if_pos (by omega), if_pos (by omega), w64_id (by omega) (by omega), if_pos (by omega), if_neg (by omega), Int.tmod_eq_zero_of_dvd hdv]
  rfl

end Go.Proofs.Ytejgmbpcnabgjaa.Pure
