/- The law SliceWhole answers true at any query and time: each window that holds a time is made of parts without gaps, one of which is the time's. No condition. -/
import Derived.Test.YticgnaladjmdoaaQSliceWholex8
namespace Go.Proofs.Yticgnaladjmdoaa.Pure
open Go.RowKit Go.Proofs.Yticgnaladjmdoaa.QSliceWhole Go.Proofs.YticgnaladjmdoaaW.PrintWords Go.Proofs.YticgnaladjmdoaaW.PrintLast Go.Proofs.YticgnaladjmdoaaW.PrintMore
set_option linter.unusedVariables false
set_option linter.unusedSimpArgs false

/-! ### win5 -/
theorem num_eq (a : Int) : bournelaw0_Num.f a = some a := rfl
theorem rd26_nat (xs : List S26) (i : Nat) : rd_T26 xs (i : Int) = xs.getD i z26 := by unfold rd_T26; rw [Int.toNat_natCast]
theorem same_l0 (xs : List S26) (hn : xs.length ≤ 4611686018427267904) (d : Nat) : ∀ (k i : Nat), i + d = xs.length → d < k → bournelaw0_SameSpans.l0 k xs xs (i : Int) = some true := by
  induction d with
  | zero =>
    intro k i hi hk
    obtain ⟨k, rfl⟩ : ∃ m, k = m + 1 := ⟨k - 1, by omega⟩
    simp only [bournelaw0_SameSpans.l0]
    rw [if_neg (by omega)]
  | succ d ih =>
    intro k i hi hk
    obtain ⟨k, rfl⟩ : ∃ m, k = m + 1 := ⟨k - 1, by omega⟩
    simp only [bournelaw0_SameSpans.l0]
    rw [if_pos (by omega), if_pos (by omega), if_pos (by omega), if_neg (by simp), w64_id (by omega) (by omega)]
    exact ih k (i + 1) (by omega) (by omega)
theorem same_self (xs : List S26) (hn : xs.length ≤ 4611686018427267904) (k : Nat) (hk : xs.length < k) : bournelaw0_SameSpans.f k xs xs = some true := by
  unfold bournelaw0_SameSpans.f
  rw [if_pos rfl]
  exact same_l0 xs hn xs.length k 0 (by omega) hk
theorem winL_ok {kind agg size slide rank t : Int} {bs : List Int} (h : wMay kind agg size slide bs rank t = true) : winL kind agg size slide bs rank t = (spans (wfirst (wstep kind size slide) size t) (wstep kind size slide) size (wmany (wstep kind size slide) size t), 0) := by
  unfold winL; rw [if_pos h]
theorem winL_no {kind agg size slide rank t : Int} {bs : List Int} (h : wMay kind agg size slide bs rank t = false) : winL kind agg size slide bs rank t = ([], 400) := by
  unfold winL; rw [if_neg (by rw [h]; decide)]
theorem spans_get (s k m : Int) (n i : Nat) (h : i < n) : (spans s k m n).getD i z26 = ⟨s + (i : Int) * k, s + (i : Int) * k + m⟩ := by
  unfold spans
  rw [List.getD_eq_getElem?_getD, List.getElem?_map, List.getElem?_range h]; rfl
theorem wmany_pos (k m t : Int) (hk : 1 ≤ k) (hkm : k ≤ m) : 1 ≤ wmany k m t := by
  have hf := wfirst_in k m t hk
  have := (wmany_le k m t hk hkm 0).1 (by omega)
  omega
theorem wstep_sl (size slide : Int) : wstep 1 size slide = slide := by unfold wstep; rw [if_pos rfl]
theorem wstep_tu (size slide : Int) : wstep 0 size slide = size := by unfold wstep; rw [if_neg (by omega)]

/-! ### slice5f -/
/-- The part that holds a time. -/
def atL (kind agg size slide : Int) (bs : List Int) (rank t : Int) : Int × Int × Int :=
  if uMay kind agg size slide bs rank = true ∧ -1099511627776 ≤ t ∧ t ≤ 1099511627776 then (t - t % uOf kind size slide, t - t % uOf kind size slide + uOf kind size slide, 0) else (0, 0, 500)
theorem time5_eq (t : Int) : window_TimeMay.f t = some (decide (-1099511627776 ≤ t ∧ t ≤ 1099511627776)) := by
  unfold window_TimeMay.f
  by_cases c : t ≥ -1099511627776
  · rw [if_pos c]; congr 1; exact decide_eq_decide.2 (by omega)
  · rw [if_neg c]; congr 1; symm; exact decide_eq_false (by omega)
theorem at5_eq (kind agg size slide : Int) (bs : List Int) (rank t : Int) (k : Nat) (hk : 1073741840 ≤ k) : slice_At.f k kind agg size slide bs rank t = some (atL kind agg size slide bs rank t) := by
  unfold slice_At.f atL
  rw [unit_eq kind agg size slide bs rank k hk, Option.bind_some]
  have hp := @uMay_parts kind agg size slide rank bs
  unfold unitL
  generalize uMay kind agg size slide bs rank = um at *
  cases um with
  | false => rw [if_neg (show ¬ (false = true) by decide), if_neg (show ¬ (false = true ∧ _) from fun h => Bool.noConfusion h.1)]; rfl
  | true =>
    rw [if_pos rfl, time5_eq, Option.bind_some]
    obtain ⟨_, _, p1, p2, p3, p4, _⟩ := hp rfl
    dsimp only
    rw [if_pos rfl]
    by_cases c : -1099511627776 ≤ t ∧ t ≤ 1099511627776
    · rw [if_pos (decide_eq_true c), if_pos ⟨rfl, c.1, c.2⟩, mod_eq p3 (by omega), Option.bind_some]
      have h0 := Int.emod_nonneg t (show uOf kind size slide ≠ 0 by omega)
      have h1 := Int.emod_lt_of_pos t (show 0 < uOf kind size slide by omega)
      dsimp only
      rw [w64_id (n := t - t % uOf kind size slide) (by omega) (by omega), w64_id (by omega) (by omega)]
    · rw [if_neg (by simpa using c), if_neg (fun h => c h.2)]
theorem av2 : atL 1 0 6 4 [] 0 (-1) = (-2, 0, 0) := by kernel_rfl

/-! ### rq5 -/
theorem rgcd_l0 (n : Nat) : ∀ (a b : Nat), b ≤ n → ∀ k, n < k → bourneref1_Gcd.l0 k (a : Int) (b : Int) = some (((Nat.gcd a b : Nat) : Int), 0) := by
  induction n with
  | zero =>
    intro a b hb k hk
    obtain ⟨k, rfl⟩ : ∃ m, k = m + 1 := ⟨k - 1, by omega⟩
    obtain rfl : b = 0 := by omega
    simp only [bourneref1_Gcd.l0]; rw [if_neg (by omega), Nat.gcd_zero_right]
  | succ n ih =>
    intro a b hb k hk
    obtain ⟨k, rfl⟩ : ∃ m, k = m + 1 := ⟨k - 1, by omega⟩
    by_cases h : b = 0
    · subst h
      simp only [bourneref1_Gcd.l0]; rw [if_neg (by omega), Nat.gcd_zero_right]
    · simp only [bourneref1_Gcd.l0]; rw [if_pos (by omega), if_neg (by omega), ← Int.ofNat_tmod]
      have hlt := Nat.mod_lt a (show b > 0 by omega)
      rw [ih b (a % b) (by omega) k (by omega)]
      congr 3
      rw [Nat.gcd_comm b (a % b), ← Nat.gcd_rec, Nat.gcd_comm]
theorem rgcd_eq {a b : Int} (ha : 1 ≤ a) (hb : 1 ≤ b) (k : Nat) (hk : b.toNat + 2 ≤ k) : bourneref1_Gcd.f k a b = some (((Nat.gcd a.toNat b.toNat : Nat) : Int), 0) := by
  unfold bourneref1_Gcd.f
  obtain ⟨k, rfl⟩ : ∃ m, k = m + 1 := ⟨k - 1, by omega⟩
  rw [if_neg (by omega), decide_eq_false (by omega)]
  simp only [bourneref1_Gcd.j0]
  have h := rgcd_l0 b.toNat a.toNat b.toNat (Nat.le_refl _) k (by omega)
  rw [Int.toNat_of_nonneg (by omega), Int.toNat_of_nonneg (by omega)] at h
  simpa using h
theorem ceil_div (m k : Int) (hk : 1 ≤ k) : (m + k - 1) / k = (m - 1) / k + 1 := by
  have := Int.add_mul_ediv_right (m - 1) 1 (show k ≠ 0 by omega)
  rw [← this]; congr 1; omega
theorem rq_eq (kind agg size slide : Int) (bs : List Int) (rank : Int) (k : Nat) (hk : 1073741840 ≤ k) : bourneref1_QueryMay.f k kind agg size slide bs rank = some (qMay kind agg size slide bs rank) := by
  unfold bourneref1_QueryMay.f bourneref1_aggMay.f qMay
  rw [Option.bind_some]
  obtain ⟨k, rfl⟩ : ∃ m, k = m + 2 := ⟨k - 2, by omega⟩
  cases aMay agg bs rank with
  | false => rw [if_neg (by decide)]; simp only [bourneref1_QueryMay.j0]; rw [if_pos True.intro, Bool.false_and, Bool.and_false]
  | true =>
    rw [if_pos rfl, Bool.true_and]
    by_cases c1 : size < 1
    · rw [if_pos c1, decide_eq_false (show ¬ (1 ≤ size ∧ size ≤ 1073741824) by omega), Bool.false_and]; simp only [bourneref1_QueryMay.j0]; rw [if_pos True.intro]
    · rw [if_neg c1]
      by_cases c2 : size > 1073741824
      · rw [decide_eq_true c2, decide_eq_false (show ¬ (1 ≤ size ∧ size ≤ 1073741824) by omega), Bool.false_and]; simp only [bourneref1_QueryMay.j0]; rw [if_pos True.intro]
      · rw [decide_eq_false c2, decide_eq_true (show 1 ≤ size ∧ size ≤ 1073741824 by omega), Bool.true_and]
        simp only [bourneref1_QueryMay.j0]
        rw [if_neg (by decide)]
        by_cases k0 : kind = 0
        · subst k0
          rw [if_pos rfl, if_neg (by omega)]
          simp only [bourneref1_QueryMay.j1]
          rw [if_pos (by rfl)]
          congr 1
          by_cases z : slide = 0 <;> simp [z]
        · rw [if_neg k0]
          simp only [bourneref1_QueryMay.j1]
          by_cases k2 : kind = 2
          · subst k2
            rw [if_pos (by rfl), if_neg (by omega)]
            congr 1
            by_cases z : slide = 0 <;> simp [z]
          · rw [if_neg (by simpa using k2)]
            by_cases k1 : kind = 1
            · subst k1
              rw [if_pos rfl, if_pos rfl]
              unfold sMay
              by_cases s1 : slide < 1
              · rw [if_pos s1, decide_eq_false (by omega)]
              · rw [if_neg s1]
                by_cases s2 : slide > size
                · rw [if_pos s2, decide_eq_false (by omega)]
                · rw [if_neg s2, rgcd_eq (by omega) (by omega) k (by omega), Option.bind_some, if_neg (by omega)]
                  have hd := Int.ediv_nonneg (show 0 ≤ size - 1 by omega) (show 0 ≤ slide by omega)
                  have hd2 := Int.ediv_le_self slide (show 0 ≤ size - 1 by omega)
                  have hc := ceil_div size slide (by omega)
                  have e1 : wrap64 (Int.tdiv (wrap64 ((wrap64 (size + slide)) - 1)) slide) = (size - 1) / slide + 1 := by
                    rw [w64_id (n := size + slide) (by omega) (by omega), w64_id (n := size + slide - 1) (by omega) (by omega), Int.tdiv_eq_ediv_of_nonneg (by omega), hc, w64_id (by omega) (by omega)]
                  rw [e1]
                  have hg := gcd_pos (b := slide) (show 1 ≤ size by omega)
                  dsimp only
                  generalize ((Nat.gcd size.toNat slide.toNat : Nat) : Int) = g at *
                  have hd3 := Int.ediv_nonneg (show 0 ≤ size by omega) (show 0 ≤ g by omega)
                  have hd4 := Int.ediv_le_self g (show 0 ≤ size by omega)
                  by_cases c3 : (size - 1) / slide + 1 ≤ 64
                  · rw [if_pos c3, if_neg (by omega), Int.tdiv_eq_ediv_of_nonneg (by omega), w64_id (by omega) (by omega)]
                    congr 1
                    exact decide_eq_decide.2 (by omega)
                  · rw [if_neg c3, decide_eq_false (by omega)]
            · rw [if_neg k1, if_neg k1, decide_eq_false (by omega)]
theorem div_bound {a b : Int} (hb : 1 ≤ b) (h1 : -9223372036854775808 ≤ a) (h2 : a ≤ 9223372036854775807) : -9223372036854775808 ≤ a / b ∧ a / b ≤ 9223372036854775807 := by
  have e := Int.mul_ediv_add_emod a b
  have h0 := Int.emod_nonneg a (show b ≠ 0 by omega)
  have hl := Int.emod_lt_of_pos a (show 0 < b by omega)
  constructor
  · exact Int.le_ediv_of_mul_le (by omega) (by omega)
  · by_cases h : 0 ≤ a
    · exact Int.le_trans (Int.ediv_le_self b h) h2
    · have : a / b < 0 := Int.ediv_neg_of_neg_of_pos (by omega) (by omega)
      omega
theorem down_eq {a b : Int} (hb : 1 ≤ b) (h1 : -9223372036854775808 ≤ a) (h2 : a ≤ 9223372036854775807) : bourneref1_Down.f a b = some (a / b) := by
  obtain ⟨hd, hm, hz⟩ := tdiv_pos (a := a) hb
  obtain ⟨g1, g2⟩ := div_bound hb h1 h2
  unfold bourneref1_Down.f
  rw [if_neg (by omega)]
  by_cases c : Int.tmod a b < 0
  · have hq : a / b + 1 ≤ 9223372036854775807 := by
      have : ¬ 0 ≤ a := fun h => by
        have := Int.tmod_nonneg b h
        omega
      have : a / b < 0 := Int.ediv_neg_of_neg_of_pos (by omega) (by omega)
      omega
    rw [if_pos c] at hd
    rw [if_pos c, hd, w64_id (n := a / b + 1) (by omega) (by omega), w64_id (by omega) (by omega)]
    congr 1; omega
  · rw [if_neg c] at hd
    rw [if_neg c, hd, w64_id (by omega) (by omega)]
    congr 1; omega
theorem rwithin_time (t : Int) : bourneref1_within.f t 1099511627776 = some (decide (-1099511627776 ≤ t ∧ t ≤ 1099511627776)) := rwithin_eq t
theorem rstep_eq (kind agg size slide : Int) (bs : List Int) (rank : Int) (h : qMay kind agg size slide bs rank = true) (hk : kind ≠ 2) : bourneref1_step.f kind agg size slide bs rank = some (wstep kind size slide) := by
  obtain ⟨_, _, _, h3⟩ := qMay_parts h
  unfold bourneref1_step.f wstep
  rcases h3 with ⟨rfl, _⟩ | ⟨h3, _⟩
  · rw [if_neg (by omega), if_pos rfl]
  · rw [if_pos (by omega), if_neg (by omega)]

/-! ### rwin5 -/
/-- The last window's begin, from the first one's. -/
theorem last_from (k m t : Int) (hk : 1 ≤ k) (hkm : k ≤ m) : t / k * k = wfirst k m t + ((wmany k m t : Int) - 1) * k := by
  have hp := wmany_pos k m t hk hkm
  have hf := wfirst_in k m t hk
  unfold wmany at *
  have h0 : 0 ≤ (t - wfirst k m t) / k := Int.ediv_nonneg (by omega) (by omega)
  rw [Int.toNat_of_nonneg (by omega)]
  unfold wfirst at *
  have e := Int.add_mul_ediv_right t (-((t - m) / k + 1)) (show k ≠ 0 by omega)
  rw [show t - ((t - m) / k * k + k) = t + -((t - m) / k + 1) * k by rw [Int.neg_mul, Int.add_mul, Int.one_mul]; omega, e]
  rw [show t / k + -((t - m) / k + 1) + 1 - 1 = t / k - ((t - m) / k + 1) by omega, Int.sub_mul, Int.add_mul, Int.one_mul]
  omega
theorem rw_two (t k last m s : Int) (N : Nat) (a0 a1 a3 : Int) (bs : List Int) (a5 : Int) (hk : 1 ≤ k) (hkm : k ≤ m) (hm : m ≤ 1073741824) (ht1 : -1099511627776 ≤ t) (ht2 : t ≤ 1099511627776)
    (hs1 : t - m < s) (hs2 : s ≤ t - m + k) (hN : N ≤ 64) (hl : last = s + ((N : Int) - 1) * k) (hl2 : last ≤ t) (d : Nat) :
    ∀ (K j : Nat), j + d = N → d < K → bourneref1_Windows.l0 K t k last (spans s k m j) ((N : Int) - 1 - j) a0 a1 m a3 bs a5 = some (spans s k m N, 0) := by
  induction d with
  | zero =>
    intro K j hj hK
    obtain ⟨K, rfl⟩ : ∃ q, K = q + 1 := ⟨K - 1, by omega⟩
    simp only [bourneref1_Windows.l0]
    rw [if_neg (by omega)]
    obtain rfl : j = N := by omega
    rfl
  | succ d ih =>
    intro K j hj hK
    obtain ⟨K, rfl⟩ : ∃ q, K = q + 1 := ⟨K - 1, by omega⟩
    have ih := ih K (j + 1) (by omega) (by omega)
    have hlen := spans_len s k m j
    rw [spans_snoc] at ih
    simp only [bourneref1_Windows.l0]
    have e1 : ((N : Int) - 1 - j) * k = ((N : Int) - 1) * k - (j : Int) * k := Int.sub_mul _ _ _
    have h0 : 0 ≤ (j : Int) * k := Int.mul_nonneg (by omega) (by omega)
    have h1 : 0 ≤ ((N : Int) - 1 - j) * k := Int.mul_nonneg (by omega) (by omega)
    have e2 : last - ((N : Int) - 1 - j) * k = s + (j : Int) * k := by rw [e1, hl]; omega
    rw [if_pos (by omega), w64_id (n := ((N : Int) - 1 - j) * k) (by omega) (by omega), e2, w64_id (n := s + (j : Int) * k) (by omega) (by omega), w64_id (n := s + (j : Int) * k + m) (by omega) (by omega), if_pos (by omega), if_pos (by omega), w64_id (by omega) (by omega)]
    rw [show (N : Int) - 1 - j - 1 = (N : Int) - 1 - ((j + 1 : Nat) : Int) by omega]
    exact ih
theorem rw_one (t k last m s : Int) (N : Nat) (a0 a1 a3 : Int) (bs : List Int) (a5 : Int) (hk : 1 ≤ k) (hkm : k ≤ m) (hm : m ≤ 1073741824) (ht1 : -1099511627776 ≤ t) (ht2 : t ≤ 1099511627776)
    (hs1 : t - m < s) (hs2 : s ≤ t - m + k) (hN : N ≤ 64) (hN1 : 1 ≤ N) (hl : last = s + ((N : Int) - 1) * k) (hl2 : last ≤ t) (e : Nat) :
    ∀ (K : Nat), ((N : Int) - 1 + e) * k ≤ m → N + e < K → bourneref1_Windows.l0 K t k last [] ((N : Int) - 1 + e) a0 a1 m a3 bs a5 = some (spans s k m N, 0) := by
  induction e with
  | zero =>
    intro K hb hK
    have h := rw_two t k last m s N a0 a1 a3 bs a5 hk hkm hm ht1 ht2 hs1 hs2 hN hl hl2 N K 0 (by omega) (by omega)
    rw [show spans s k m 0 = [] by unfold spans; rfl] at h
    rw [show (N : Int) - 1 + ((0 : Nat) : Int) = (N : Int) - 1 - ((0 : Nat) : Int) by omega]
    exact h
  | succ e ih =>
    intro K hb hK
    obtain ⟨K, rfl⟩ : ∃ q, K = q + 1 := ⟨K - 1, by omega⟩
    have e1 : ((N : Int) - 1 + ((e + 1 : Nat) : Int)) * k = ((N : Int) - 1) * k + (e : Int) * k + k := by rw [Int.natCast_add, Int.add_mul, Int.add_mul]; omega
    have h0 : 0 ≤ (e : Int) * k := Int.mul_nonneg (by omega) (by omega)
    have h1 : 0 ≤ ((N : Int) - 1) * k := Int.mul_nonneg (by omega) (by omega)
    have e2 : last - ((N : Int) - 1 + ((e + 1 : Nat) : Int)) * k = s - (e : Int) * k - k := by rw [e1, hl]; omega
    have ih := ih K (by rw [Int.add_mul]; omega) (by omega)
    have hi := Int.mul_le_mul_of_nonneg_left (show 1 ≤ k by omega) (show 0 ≤ (N : Int) - 1 + ((e + 1 : Nat) : Int) by omega)
    rw [Int.mul_one] at hi
    simp only [bourneref1_Windows.l0]
    rw [if_pos (by omega), w64_id (n := ((N : Int) - 1 + ((e + 1 : Nat) : Int)) * k) (by omega) (by omega), e2, w64_id (n := s - (e : Int) * k - k) (by omega) (by omega), w64_id (n := s - (e : Int) * k - k + m) (by omega) (by omega), if_neg (by omega), w64_id (by omega) (by omega)]
    rw [show (N : Int) - 1 + ((e + 1 : Nat) : Int) - 1 = (N : Int) - 1 + (e : Int) by omega]
    exact ih
theorem rwin_eq (kind agg size slide : Int) (bs : List Int) (rank t : Int) (k : Nat) (hk : 2147483700 ≤ k) : bourneref1_Windows.f k kind agg size slide bs rank t = some (winL kind agg size slide bs rank t) := by
  unfold bourneref1_Windows.f
  rw [rq_eq kind agg size slide bs rank k (by omega), Option.bind_some]
  obtain ⟨k, rfl⟩ : ∃ m, k = m + 1 := ⟨k - 1, by omega⟩
  have hw : wMay kind agg size slide bs rank t = (qMay kind agg size slide bs rank && decide (kind ≠ 2 ∧ -1099511627776 ≤ t ∧ t ≤ 1099511627776)) := rfl
  have hin := @wstep_in kind agg size slide rank bs
  have hst := rstep_eq kind agg size slide bs rank
  generalize qMay kind agg size slide bs rank = mv at *
  cases mv with
  | false =>
    rw [Bool.false_and] at hw
    rw [winL_no hw, if_neg (by decide)]
    simp only [bourneref1_Windows.j0]
    rw [if_pos True.intro]
  | true =>
    rw [Bool.true_and] at hw
    rw [if_pos rfl]
    by_cases k2 : kind = 2
    · rw [decide_eq_false (by omega)] at hw
      rw [winL_no hw, if_pos k2]
      simp only [bourneref1_Windows.j0]
      rw [if_pos True.intro]
    · rw [if_neg k2, rwithin_time, Option.bind_some]
      by_cases c : -1099511627776 ≤ t ∧ t ≤ 1099511627776
      · rw [decide_eq_true ⟨k2, c⟩] at hw
        rw [winL_ok hw, decide_eq_true c]
        simp only [bourneref1_Windows.j0]
        obtain ⟨s1, s2, s3, s4⟩ := hin rfl k2
        rw [if_neg (by decide), hst rfl k2, Option.bind_some, down_eq s1 (by omega) (by omega), Option.bind_some, if_neg (by omega)]
        generalize wstep kind size slide = st at *
        have hf := wfirst_in st size t s1
        have hp := wmany_pos st size t s1 s2
        have h64 := wmany_64 st size t s1 s2 s4
        have hl := last_from st size t s1 s2
        have hl1 := Int.ediv_mul_le t (show st ≠ 0 by omega)
        have hl2 := Int.lt_ediv_add_one_mul_self t (show 0 < st by omega)
        rw [Int.add_mul, Int.one_mul] at hl2
        have d0 : 0 ≤ (size - 1) / st := Int.ediv_nonneg (by omega) (by omega)
        have hD := Int.ediv_mul_le (size - 1) (show st ≠ 0 by omega)
        have hN : (wmany st size t : Int) - 1 ≤ (size - 1) / st := by
          have h := Int.ediv_le_ediv (show 0 < st by omega) (show t - wfirst st size t ≤ size - 1 by omega)
          have h0 : 0 ≤ (t - wfirst st size t) / st := Int.ediv_nonneg (by omega) (by omega)
          have e : (wmany st size t : Int) = (t - wfirst st size t) / st + 1 := by unfold wmany; exact Int.toNat_of_nonneg (by omega)
          omega
        rw [w64_id (n := size - 1) (by omega) (by omega), Int.tdiv_eq_ediv_of_nonneg (by omega), w64_id (n := (size - 1) / st) (by omega) (by omega), w64_id (n := t / st * st) (by omega) (by omega)]
        generalize wfirst st size t = s at *
        generalize wmany st size t = N at *
        obtain ⟨e, he⟩ := Int.eq_ofNat_of_zero_le (show 0 ≤ (size - 1) / st - ((N : Int) - 1) by omega)
        have hi : (size - 1) / st = (N : Int) - 1 + (e : Int) := by omega
        rw [hi] at hD ⊢
        exact rw_one t st (t / st * st) size s N kind agg slide bs rank s1 s2 s3 c.1 c.2 hf.1 hf.2 h64 hp hl hl1 e k (by omega) (by omega)
      · rw [decide_eq_false (fun h => c h.2)] at hw
        rw [winL_no hw, decide_eq_false c]
        simp only [bourneref1_Windows.j0]
        rw [if_pos (by rfl)]
theorem winL_len (kind agg size slide : Int) (bs : List Int) (rank t : Int) : (winL kind agg size slide bs rank t).1.length ≤ 64 := by
  cases h : wMay kind agg size slide bs rank t with
  | false => rw [winL_no h]; simp
  | true =>
    rw [winL_ok h]
    unfold wMay at h
    rw [Bool.and_eq_true, decide_eq_true_eq] at h
    obtain ⟨s1, s2, s3, s4⟩ := wstep_in h.1 h.2.1
    rw [spans_len]
    exact wmany_64 _ _ _ s1 s2 s4

/-! ### awake5 -/
theorem av1 : unitL 1 0 6 4 [] 0 = (2, 0) := by kernel_rfl
theorem av3 : cutL 1 0 6 4 [] 0 (-4) 2 = ([(⟨(-4), (-2)⟩ : S26), (⟨(-2), 0⟩ : S26), (⟨0, 2⟩ : S26)], 0) := by kernel_rfl
theorem av4 : cutL 1 0 6 4 [] 0 (-3) 3 = (([] : List S26), 500) := by kernel_rfl
theorem av5 : unitL 2 0 2 0 [] 0 = (0, 500) := by kernel_rfl
theorem awake5_eq (k : Nat) (hk : 1073741850 ≤ k) (hat : slice_At.f k 1 0 6 4 ([] : List Int) 0 (-1) = some (-2, 0, 0)) : bournelaw5_awake.f k = some true := by
  unfold bournelaw5_awake.f slice_Cut.f
  rw [unit_eq 1 0 6 4 [] 0 k (by omega), unit_eq 2 0 2 0 [] 0 k (by omega), av1, av3, av4, av5, hat]
  simp only [Option.bind_some, num_eq, if_true]
  rw [same_self _ (by simp) k (by simp; omega)]
  rfl

theorem first_mult (k m t : Int) : k ∣ wfirst k m t := by
  unfold wfirst
  exact ⟨(t - m) / k + 1, by rw [Int.mul_add, Int.mul_one, Int.mul_comm]⟩
theorem whole_l1 (ws : List S26) (x9 s u A0 : Int) (n J : Nat) (hu : 1 ≤ u) (hu2 : u ≤ 1073741824) (hn : n ≤ 256) (hs1 : -2199023255552 ≤ s) (hs2 : s ≤ 2199023255552) (hA : A0 = s + (J : Int) * u) (a0 a1 a2 a3 : Int) (bs : List Int) (a5 : Int) (hA1 : -2199023255552 ≤ A0) (hA2 : A0 ≤ 2199023255552) (hJ : J < n) (K : Nat) (d : Nat) :
    ∀ (j : Nat), j + d = n → bournelaw5_SliceWhole.l1 (d + 1 + K) ws x9 (spans s u u n) (decide (J < j)) (j : Int) a0 a1 a2 a3 bs a5 A0 (A0 + u) = bournelaw5_SliceWhole.l0 K ws (wrap64 (x9 + 1)) a0 a1 a2 a3 bs a5 A0 (A0 + u) := by
  induction d with
  | zero =>
    intro j hj
    rw [show 0 + 1 + K = K + 1 by omega]
    simp only [bournelaw5_SliceWhole.l1]
    rw [spans_len, if_neg (by omega), if_pos (decide_eq_true (by omega))]
  | succ d ih =>
    intro j hj
    have ih := ih (j + 1) (by omega)
    rw [show d + 1 + 1 + K = (d + 1 + K) + 1 by omega]
    simp only [bournelaw5_SliceWhole.l1]
    have h0 : 0 ≤ (j : Int) * u := Int.mul_nonneg (by omega) (by omega)
    have h1 : (j : Int) * u ≤ 256 * 1073741824 := Int.mul_le_mul (by omega) (by omega) (by omega) (by omega)
    have hflag : (if decide (J < j) = true then true else (decide (s + (j : Int) * u = A0) && decide (s + (j : Int) * u + u = A0 + u))) = decide (J < j + 1) := by
      by_cases c : J < j
      · rw [if_pos (decide_eq_true c), decide_eq_true (by omega)]
      · rw [if_neg (by simpa using c)]
        by_cases e : J = j
        · subst e
          rw [decide_eq_true hA.symm, decide_eq_true (by omega), decide_eq_true (by omega)]; rfl
        · have hne : s + (j : Int) * u ≠ A0 := by
            intro q
            have h3 : ((j : Int) + 1) * u ≤ (J : Int) * u := Int.mul_le_mul_of_nonneg_right (by omega) (by omega)
            rw [Int.add_mul, Int.one_mul] at h3
            omega
          rw [decide_eq_false hne, decide_eq_false (show ¬ J < j + 1 by omega)]; rfl
    have hgo : (if decide (J < j) = true then bournelaw5_SliceWhole.l1 (d + 1 + K) ws x9 (spans s u u n) true (wrap64 ((j : Int) + 1)) a0 a1 a2 a3 bs a5 A0 (A0 + u) else bournelaw5_SliceWhole.l1 (d + 1 + K) ws x9 (spans s u u n) ((s + (j : Int) * u) == A0 && ((s + (j : Int) * u + u) == A0 + u)) (wrap64 ((j : Int) + 1)) a0 a1 a2 a3 bs a5 A0 (A0 + u)) = bournelaw5_SliceWhole.l0 K ws (wrap64 (x9 + 1)) a0 a1 a2 a3 bs a5 A0 (A0 + u) := by
      rw [w64_id (n := (j : Int) + 1) (by omega) (by omega)]
      rw [← hflag] at ih
      by_cases c : decide (J < j) = true
      · rw [if_pos c] at ih ⊢; exact ih
      · rw [if_neg c] at ih ⊢; exact ih
    rw [spans_len, if_pos (by omega)]
    by_cases c0 : 0 < j
    · have e2 : ((j - 1 : Nat) : Int) * u = (j : Int) * u - u := by rw [Int.natCast_sub (by omega), Int.sub_mul]; omega
      rw [if_pos (by omega), if_pos (by omega), w64_id (n := (j : Int) - 1) (by omega) (by omega), if_pos (by omega), if_pos (by omega), rd26_nat, show (j : Int) - 1 = ((j - 1 : Nat) : Int) by omega, rd26_nat, spans_get _ _ _ _ _ (by omega), spans_get _ _ _ _ _ (by omega)]
      dsimp only
      rw [e2, if_pos (by omega), w64_id (n := s + (j : Int) * u + u - (s + (j : Int) * u)) (by omega) (by omega), w64_id (n := A0 + u - A0) (by omega) (by omega), if_pos (by omega)]
      exact hgo
    · rw [if_neg (by omega), if_pos (by omega), rd26_nat, spans_get _ _ _ _ _ (by omega)]
      dsimp only
      rw [w64_id (n := s + (j : Int) * u + u - (s + (j : Int) * u)) (by omega) (by omega), w64_id (n := A0 + u - A0) (by omega) (by omega), if_pos (by omega)]
      exact hgo
theorem whole_l0 (f k m t u A0 : Int) (N n : Nat) (a0 a1 a3 : Int) (bs : List Int) (a5 : Int) (hcut : ∀ s, k ∣ s → s ≤ t → t < s + m → cutL a0 a1 m a3 bs a5 s (s + m) = (spans s u u n, 0)) (hN : N ≤ 64) (hk : 1 ≤ k) (hkm : k ≤ m) (hm : m ≤ 1073741824)
    (ht1 : -1099511627776 ≤ t) (ht2 : t ≤ 1099511627776) (hfd : k ∣ f) (hf1 : t - m < f) (hlast : ∀ i : Nat, i < N → f + (i : Int) * k ≤ t) (hu : 1 ≤ u) (huk : u ∣ k) (hnu : m = (n : Int) * u) (hn1 : 1 ≤ n) (hn : n ≤ 256) (hA : A0 = t - t % u) (e : Nat) :
    ∀ (K i : Nat), i + e = N → e * (n + 3) + 1 ≤ K → bournelaw5_SliceWhole.l0 K (spans f k m N) (i : Int) a0 a1 m a3 bs a5 A0 (A0 + u) = some true := by
  have hum : u ≤ m := by
    have := Int.mul_le_mul_of_nonneg_right (show (1 : Int) ≤ n by omega) (show 0 ≤ u by omega)
    rw [Int.one_mul] at this
    omega
  have r0 := Int.emod_nonneg t (show u ≠ 0 by omega)
  have r1 := Int.emod_lt_of_pos t (show 0 < u by omega)
  have hAd : u ∣ A0 := by rw [hA]; exact Int.dvd_self_sub_emod
  induction e with
  | zero =>
    intro K i hi hK
    obtain ⟨K, rfl⟩ : ∃ q, K = q + 1 := ⟨K - 1, by omega⟩
    simp only [bournelaw5_SliceWhole.l0]
    rw [spans_len, if_neg (by omega)]
  | succ e ih =>
    intro K i hi hK
    rw [Nat.succ_mul] at hK
    obtain ⟨K, rfl⟩ : ∃ q, K = (n + 1 + q) + 2 := ⟨K - n - 3, by omega⟩
    have ih := ih K (i + 1) (by omega) (by omega)
    simp only [bournelaw5_SliceWhole.l0]
    have g0 : 0 ≤ (i : Int) * k := Int.mul_nonneg (by omega) (by omega)
    have g1 := hlast i (by omega)
    have hsd : k ∣ f + (i : Int) * k := Int.dvd_add hfd (Int.dvd_mul_left _ _)
    unfold slice_Cut.f
    rw [spans_len, if_pos (by omega), if_pos (by omega), rd26_nat, spans_get _ _ _ _ _ (by omega)]
    dsimp only
    rw [hcut _ hsd g1 (by omega), Option.bind_some]
    generalize hs : f + (i : Int) * k = s at *
    have hus : u ∣ s := Int.dvd_trans huk hsd
    obtain ⟨p, hp⟩ := hus
    obtain ⟨q, hq⟩ := hAd
    have hpq : p ≤ q := by
      have : u * p < u * (q + 1) := by rw [Int.mul_add]; omega
      have := Int.lt_of_mul_lt_mul_left this (by omega)
      omega
    obtain ⟨J, hJ⟩ := Int.eq_ofNat_of_zero_le (show 0 ≤ q - p by omega)
    have hAs : A0 = s + (J : Int) * u := by rw [← hJ, hp, hq, Int.sub_mul, Int.mul_comm q u, Int.mul_comm p u]; omega
    have hJn : J < n := by
      have : (J : Int) * u < (n : Int) * u := by omega
      have := Int.lt_of_mul_lt_mul_right this (by omega)
      omega
    dsimp only
    have hnm : ((n - 1 : Nat) : Int) * u + u = m := by rw [Int.natCast_sub hn1, Int.sub_mul]; omega
    simp only [num_eq, Option.bind_some, if_true]
    rw [spans_len, if_neg (by omega), if_pos (by omega), w64_id (n := (n : Int) - 1) (by omega) (by omega)]
    have z0 : rd_T26 (spans s u u n) 0 = ⟨s, s + u⟩ := by
      have := rd26_nat (spans s u u n) 0
      rw [spans_get _ _ _ _ _ (by omega)] at this
      simpa using this
    rw [z0]
    dsimp only
    rw [if_pos rfl, if_pos (by omega), if_pos (by omega), show (n : Int) - 1 = ((n - 1 : Nat) : Int) by omega, rd26_nat, spans_get _ _ _ _ _ (by omega)]
    dsimp only
    simp only [bournelaw5_SliceWhole.j2]
    rw [show (s + ((n - 1 : Nat) : Int) * u + u != s + m) = false from bne_eq_false_iff_eq.2 (by omega), if_neg (by decide)]
    have hl := whole_l1 (spans f k m N) (i : Int) s u A0 n J hu (by omega) hn (by omega) (by omega) hAs a0 a1 m a3 bs a5 (by omega) (by omega) hJn K n 0 (by omega)
    rw [decide_eq_false (show ¬ J < 0 by omega)] at hl
    rw [show ((0 : Nat) : Int) = 0 from rfl] at hl
    rw [hl, w64_id (by omega) (by omega)]
    exact ih
theorem SliceWhole_pure (a0 a1 a2 a3 : Int) (bs : List Int) (a5 t : Int) : ∃ k, bournelaw5_SliceWhole.f k a0 a1 a2 a3 bs a5 t = some true := by
  refine ⟨2147483800, ?_⟩
  generalize hK : 2147483800 = K
  have hK2 : 2147483800 ≤ K := by omega
  clear hK
  have ha := awake5_eq K (by omega) (by rw [at5_eq _ _ _ _ _ _ _ K (by omega), av2])
  unfold bournelaw5_SliceWhole.f
  rw [ha, Option.bind_some, if_pos rfl, rwin_eq a0 a1 a2 a3 bs a5 t K (by omega), Option.bind_some, at5_eq a0 a1 a2 a3 bs a5 t K (by omega), Option.bind_some]
  have hw : wMay a0 a1 a2 a3 bs a5 t = (qMay a0 a1 a2 a3 bs a5 && decide (a0 ≠ 2 ∧ -1099511627776 ≤ t ∧ t ≤ 1099511627776)) := rfl
  have hum : uMay a0 a1 a2 a3 bs a5 = (qMay a0 a1 a2 a3 bs a5 && decide (a0 ≠ 2)) := rfl
  by_cases c : uMay a0 a1 a2 a3 bs a5 = true ∧ -1099511627776 ≤ t ∧ t ≤ 1099511627776
  · obtain ⟨cu, c1, c2⟩ := c
    obtain ⟨hq, k2, p1, p2, p3, p4, p5, p6, p7⟩ := uMay_parts cu
    obtain ⟨s1, s2, s3, s4⟩ := wstep_in hq k2
    have hwt : wMay a0 a1 a2 a3 bs a5 t = true := by rw [hw, hq, decide_eq_true ⟨k2, c1, c2⟩]; rfl
    rw [winL_ok hwt]
    unfold atL
    rw [if_pos (show uMay a0 a1 a2 a3 bs a5 = true ∧ -1099511627776 ≤ t ∧ t ≤ 1099511627776 from ⟨cu, c1, c2⟩)]
    simp only [num_eq, Option.bind_some, if_true]
    have r0 := Int.emod_nonneg t (show uOf a0 a2 a3 ≠ 0 by omega)
    have r1 := Int.emod_lt_of_pos t (show 0 < uOf a0 a2 a3 by omega)
    rw [if_neg (by omega), decide_eq_false (by omega)]
    obtain ⟨K, rfl⟩ : ∃ q, K = q + 1 := ⟨K - 1, by omega⟩
    simp only [bournelaw5_SliceWhole.j0]
    rw [if_neg (by decide)]
    have hf := wfirst_in (wstep a0 a2 a3) a2 t s1
    have h64 := wmany_64 (wstep a0 a2 a3) a2 t s1 s2 s4
    obtain ⟨n, hn⟩ := Int.eq_ofNat_of_zero_le (show 0 ≤ a2 / uOf a0 a2 a3 from Int.ediv_nonneg (by omega) (by omega))
    have hnu : a2 = (n : Int) * uOf a0 a2 a3 := by rw [← hn, Int.ediv_mul_cancel p5]
    have hn1 : 1 ≤ n := by
      rcases Nat.eq_zero_or_pos n with h | h
      · rw [h] at hnu; simp at hnu; omega
      · exact h
    have hb : (wmany (wstep a0 a2 a3) a2 t) * (n + 3) ≤ 64 * 259 := Nat.mul_le_mul h64 (by omega)
    refine whole_l0 (wfirst (wstep a0 a2 a3) a2 t) (wstep a0 a2 a3) a2 t (uOf a0 a2 a3) (t - t % uOf a0 a2 a3) (wmany (wstep a0 a2 a3) a2 t) n a0 a1 a3 bs a5 ?_ h64 s1 s2 s3 c1 c2 (first_mult _ _ _) hf.1 (fun i hi => (wmany_le _ _ _ s1 s2 i).2 hi) p3 p6 hnu hn1 (by omega) rfl (wmany (wstep a0 a2 a3) a2 t) K 0 (by omega) (by omega)
    intro s hsd hs1 hs2
    have hcm : cutMay a0 a1 a2 a3 bs a5 s (s + a2) = true := by
      unfold cutMay isB
      rw [cu, decide_eq_true (by omega), decide_eq_true (Int.emod_eq_zero_of_dvd hsd)]; rfl
    unfold cutL
    rw [if_pos hcm, show (a2 / uOf a0 a2 a3).toNat = n by omega]
  · have hwt : wMay a0 a1 a2 a3 bs a5 t = false := by
      rw [hw]
      rw [hum] at c
      cases hqv : qMay a0 a1 a2 a3 bs a5 with
      | false => rfl
      | true =>
        rw [hqv] at c
        rw [Bool.true_and]
        exact decide_eq_false (fun h => c ⟨by rw [Bool.true_and]; exact decide_eq_true h.1, h.2⟩)
    rw [winL_no hwt]
    unfold atL
    rw [if_neg c]
    rfl
theorem whole_walk (a0 a1 a2 a3 : Int) (A : Option Addr) (len cap : Nat) (z : List Int) (a5 t : Int) (w : World) (h0 : (Lit.int .i64 a0).wf = true) (h1 : (Lit.int .i64 a1).wf = true) (h2 : (Lit.int .i64 a2).wf = true) (h3 : (Lit.int .i64 a3).wf = true)
    (hr : (A = none ∧ len = 0 ∧ cap = 0 ∧ z = []) ∨ ∃ x, A = some x ∧ len ≤ cap ∧ cap ≤ maxLen ∧ z.length = cap ∧ (∀ i, i < z.length → w.cell? (x.add i) = some (.int .i64 (z.getD i 0))) ∧ ∀ n ∈ z, (Lit.int .i64 n).wf = true)
    (h5 : (Lit.int .i64 a5).wf = true) (ht : (Lit.int .i64 t).wf = true) :
    Calls Try.prog 4 #[.agg #[.int .i64 a0, .int .i64 a1, .int .i64 a2, .int .i64 a3, .slice A len cap, .int .i64 a5], .int .i64 t] w fun e w' => e = .returned (.bool true) ∧ Below w.heap.size w w' := by
  obtain ⟨l, rfl, hl, hm, hw, hc⟩ := ReadsInt.ofRowC hr
  obtain ⟨k, h⟩ := SliceWhole_pure a0 a1 a2 a3 l a5 t
  exact bournelaw5_SliceWhole.calls k a0 a1 a2 a3 A cap l a5 t true w (Kd.C_of_reads (d := (0 : Int)) (h1 := fun _ => rfl) hl) hc h

end Go.Proofs.Yticgnaladjmdoaa.Pure
