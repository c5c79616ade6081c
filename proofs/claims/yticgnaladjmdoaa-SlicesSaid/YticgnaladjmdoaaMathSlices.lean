/- The law Slices answers true at any query, time and span: units, parts and cuts are the document's. No condition. -/
import Derived.Test.YticgnaladjmdoaaQSlicesx8
namespace Go.Proofs.Yticgnaladjmdoaa.Pure
open Go.RowKit Go.Proofs.Yticgnaladjmdoaa.QSlices Go.Proofs.YticgnaladjmdoaaW.PrintWords Go.Proofs.YticgnaladjmdoaaW.PrintLast Go.Proofs.YticgnaladjmdoaaW.PrintMore
set_option linter.unusedVariables false
set_option linter.unusedSimpArgs false

/-! ### win5 -/
theorem num_eq (a : Int) : bournelaw0_Num.f a = some a := rfl
theorem rd26_nat (xs : List S26) (i : Nat) : rd_T26 xs (i : Int) = xs.getD i z26 := by unfold rd_T26; rw [Int.toNat_natCast]
theorem same_l0 (xs : List S26) (hn : xs.length ≤ 4611686018427267904) (d : Nat) : ∀ (k i : Nat), i + d = xs.length → d < k → bournelaw0_SameSpans.l0 k xs xs (i : Int) = some true := by
  induction d with
  | zero =>
    intro k i hi hk
    obtain ⟨k, rfl⟩ : ∃ m, k = m + 1 := ⟨k - 1, by omega⟩
    simp only [bournelaw0_SameSpans.l0]
    rw [if_neg (by omega)]
  | succ d ih =>
    intro k i hi hk
    obtain ⟨k, rfl⟩ : ∃ m, k = m + 1 := ⟨k - 1, by omega⟩
    simp only [bournelaw0_SameSpans.l0]
    rw [if_pos (by omega), if_pos (by omega), if_pos (by omega), if_neg (by simp), w64_id (by omega) (by omega)]
    exact ih k (i + 1) (by omega) (by omega)
theorem same_self (xs : List S26) (hn : xs.length ≤ 4611686018427267904) (k : Nat) (hk : xs.length < k) : bournelaw0_SameSpans.f k xs xs = some true := by
  unfold bournelaw0_SameSpans.f
  rw [if_pos rfl]
  exact same_l0 xs hn xs.length k 0 (by omega) hk
theorem winL_ok {kind agg size slide rank t : Int} {bs : List Int} (h : wMay kind agg size slide bs rank t = true) : winL kind agg size slide bs rank t = (spans (wfirst (wstep kind size slide) size t) (wstep kind size slide) size (wmany (wstep kind size slide) size t), 0) := by
  unfold winL; rw [if_pos h]
theorem winL_no {kind agg size slide rank t : Int} {bs : List Int} (h : wMay kind agg size slide bs rank t = false) : winL kind agg size slide bs rank t = ([], 400) := by
  unfold winL; rw [if_neg (by rw [h]; decide)]
theorem spans_get (s k m : Int) (n i : Nat) (h : i < n) : (spans s k m n).getD i z26 = ⟨s + (i : Int) * k, s + (i : Int) * k + m⟩ := by
  unfold spans
  rw [List.getD_eq_getElem?_getD, List.getElem?_map, List.getElem?_range h]; rfl
theorem wmany_pos (k m t : Int) (hk : 1 ≤ k) (hkm : k ≤ m) : 1 ≤ wmany k m t := by
  have hf := wfirst_in k m t hk
  have := (wmany_le k m t hk hkm 0).1 (by omega)
  omega
theorem wstep_sl (size slide : Int) : wstep 1 size slide = slide := by unfold wstep; rw [if_pos rfl]
theorem wstep_tu (size slide : Int) : wstep 0 size slide = size := by unfold wstep; rw [if_neg (by omega)]

/-! ### rq5 -/
theorem rgcd_l0 (n : Nat) : ∀ (a b : Nat), b ≤ n → ∀ k, n < k → bourneref1_Gcd.l0 k (a : Int) (b : Int) = some (((Nat.gcd a b : Nat) : Int), 0) := by
  induction n with
  | zero =>
    intro a b hb k hk
    obtain ⟨k, rfl⟩ : ∃ m, k = m + 1 := ⟨k - 1, by omega⟩
    obtain rfl : b = 0 := by omega
    simp only [bourneref1_Gcd.l0]; rw [if_neg (by omega), Nat.gcd_zero_right]
  | succ n ih =>
    intro a b hb k hk
    obtain ⟨k, rfl⟩ : ∃ m, k = m + 1 := ⟨k - 1, by omega⟩
    by_cases h : b = 0
    · subst h
      simp only [bourneref1_Gcd.l0]; rw [if_neg (by omega), Nat.gcd_zero_right]
    · simp only [bourneref1_Gcd.l0]; rw [if_pos (by omega), if_neg (by omega), ← Int.ofNat_tmod]
      have hlt := Nat.mod_lt a (show b > 0 by omega)
      rw [ih b (a % b) (by omega) k (by omega)]
      congr 3
      rw [Nat.gcd_comm b (a % b), ← Nat.gcd_rec, Nat.gcd_comm]
theorem rgcd_eq {a b : Int} (ha : 1 ≤ a) (hb : 1 ≤ b) (k : Nat) (hk : b.toNat + 2 ≤ k) : bourneref1_Gcd.f k a b = some (((Nat.gcd a.toNat b.toNat : Nat) : Int), 0) := by
  unfold bourneref1_Gcd.f
  obtain ⟨k, rfl⟩ : ∃ m, k = m + 1 := ⟨k - 1, by omega⟩
  rw [if_neg (by omega), decide_eq_false (by omega)]
  simp only [bourneref1_Gcd.j0]
  have h := rgcd_l0 b.toNat a.toNat b.toNat (Nat.le_refl _) k (by omega)
  rw [Int.toNat_of_nonneg (by omega), Int.toNat_of_nonneg (by omega)] at h
  simpa using h
theorem ceil_div (m k : Int) (hk : 1 ≤ k) : (m + k - 1) / k = (m - 1) / k + 1 := by
  have := Int.add_mul_ediv_right (m - 1) 1 (show k ≠ 0 by omega)
  rw [← this]; congr 1; omega
theorem rq_eq (kind agg size slide : Int) (bs : List Int) (rank : Int) (k : Nat) (hk : 1073741840 ≤ k) : bourneref1_QueryMay.f k kind agg size slide bs rank = some (qMay kind agg size slide bs rank) := by
  unfold bourneref1_QueryMay.f bourneref1_aggMay.f qMay
  rw [Option.bind_some]
  obtain ⟨k, rfl⟩ : ∃ m, k = m + 2 := ⟨k - 2, by omega⟩
  cases aMay agg bs rank with
  | false => rw [if_neg (by decide)]; simp only [bourneref1_QueryMay.j0]; rw [if_pos True.intro, Bool.false_and, Bool.and_false]
  | true =>
    rw [if_pos rfl, Bool.true_and]
    by_cases c1 : size < 1
    · rw [if_pos c1, decide_eq_false (show ¬ (1 ≤ size ∧ size ≤ 1073741824) by omega), Bool.false_and]; simp only [bourneref1_QueryMay.j0]; rw [if_pos True.intro]
    · rw [if_neg c1]
      by_cases c2 : size > 1073741824
      · rw [decide_eq_true c2, decide_eq_false (show ¬ (1 ≤ size ∧ size ≤ 1073741824) by omega), Bool.false_and]; simp only [bourneref1_QueryMay.j0]; rw [if_pos True.intro]
      · rw [decide_eq_false c2, decide_eq_true (show 1 ≤ size ∧ size ≤ 1073741824 by omega), Bool.true_and]
        simp only [bourneref1_QueryMay.j0]
        rw [if_neg (by decide)]
        by_cases k0 : kind = 0
        · subst k0
          rw [if_pos rfl, if_neg (by omega)]
          simp only [bourneref1_QueryMay.j1]
          rw [if_pos (by rfl)]
          congr 1
          by_cases z : slide = 0 <;> simp [z]
        · rw [if_neg k0]
          simp only [bourneref1_QueryMay.j1]
          by_cases k2 : kind = 2
          · subst k2
            rw [if_pos (by rfl), if_neg (by omega)]
            congr 1
            by_cases z : slide = 0 <;> simp [z]
          · rw [if_neg (by simpa using k2)]
            by_cases k1 : kind = 1
            · subst k1
              rw [if_pos rfl, if_pos rfl]
              unfold sMay
              by_cases s1 : slide < 1
              · rw [if_pos s1, decide_eq_false (by omega)]
              · rw [if_neg s1]
                by_cases s2 : slide > size
                · rw [if_pos s2, decide_eq_false (by omega)]
                · rw [if_neg s2, rgcd_eq (by omega) (by omega) k (by omega), Option.bind_some, if_neg (by omega)]
                  have hd := Int.ediv_nonneg (show 0 ≤ size - 1 by omega) (show 0 ≤ slide by omega)
                  have hd2 := Int.ediv_le_self slide (show 0 ≤ size - 1 by omega)
                  have hc := ceil_div size slide (by omega)
                  have e1 : wrap64 (Int.tdiv (wrap64 ((wrap64 (size + slide)) - 1)) slide) = (size - 1) / slide + 1 := by
                    rw [w64_id (n := size + slide) (by omega) (by omega), w64_id (n := size + slide - 1) (by omega) (by omega), Int.tdiv_eq_ediv_of_nonneg (by omega), hc, w64_id (by omega) (by omega)]
                  rw [e1]
                  have hg := gcd_pos (b := slide) (show 1 ≤ size by omega)
                  dsimp only
                  generalize ((Nat.gcd size.toNat slide.toNat : Nat) : Int) = g at *
                  have hd3 := Int.ediv_nonneg (show 0 ≤ size by omega) (show 0 ≤ g by omega)
                  have hd4 := Int.ediv_le_self g (show 0 ≤ size by omega)
                  by_cases c3 : (size - 1) / slide + 1 ≤ 64
                  · rw [if_pos c3, if_neg (by omega), Int.tdiv_eq_ediv_of_nonneg (by omega), w64_id (by omega) (by omega)]
                    congr 1
                    exact decide_eq_decide.2 (by omega)
                  · rw [if_neg c3, decide_eq_false (by omega)]
            · rw [if_neg k1, if_neg k1, decide_eq_false (by omega)]
theorem div_bound {a b : Int} (hb : 1 ≤ b) (h1 : -9223372036854775808 ≤ a) (h2 : a ≤ 9223372036854775807) : -9223372036854775808 ≤ a / b ∧ a / b ≤ 9223372036854775807 := by
  have e := Int.mul_ediv_add_emod a b
  have h0 := Int.emod_nonneg a (show b ≠ 0 by omega)
  have hl := Int.emod_lt_of_pos a (show 0 < b by omega)
  constructor
  · exact Int.le_ediv_of_mul_le (by omega) (by omega)
  · by_cases h : 0 ≤ a
    · exact Int.le_trans (Int.ediv_le_self b h) h2
    · have : a / b < 0 := Int.ediv_neg_of_neg_of_pos (by omega) (by omega)
      omega
theorem down_eq {a b : Int} (hb : 1 ≤ b) (h1 : -9223372036854775808 ≤ a) (h2 : a ≤ 9223372036854775807) : bourneref1_Down.f a b = some (a / b) := by
  obtain ⟨hd, hm, hz⟩ := tdiv_pos (a := a) hb
  obtain ⟨g1, g2⟩ := div_bound hb h1 h2
  unfold bourneref1_Down.f
  rw [if_neg (by omega)]
  by_cases c : Int.tmod a b < 0
  · have hq : a / b + 1 ≤ 9223372036854775807 := by
      have : ¬ 0 ≤ a := fun h => by
        have := Int.tmod_nonneg b h
        omega
      have : a / b < 0 := Int.ediv_neg_of_neg_of_pos (by omega) (by omega)
      omega
    rw [if_pos c] at hd
    rw [if_pos c, hd, w64_id (n := a / b + 1) (by omega) (by omega), w64_id (by omega) (by omega)]
    congr 1; omega
  · rw [if_neg c] at hd
    rw [if_neg c, hd, w64_id (by omega) (by omega)]
    congr 1; omega
theorem rwithin_time (t : Int) : bourneref1_within.f t 1099511627776 = some (decide (-1099511627776 ≤ t ∧ t ≤ 1099511627776)) := rwithin_eq t
theorem rstep_eq (kind agg size slide : Int) (bs : List Int) (rank : Int) (h : qMay kind agg size slide bs rank = true) (hk : kind ≠ 2) : bourneref1_step.f kind agg size slide bs rank = some (wstep kind size slide) := by
  obtain ⟨_, _, _, h3⟩ := qMay_parts h
  unfold bourneref1_step.f wstep
  rcases h3 with ⟨rfl, _⟩ | ⟨h3, _⟩
  · rw [if_neg (by omega), if_pos rfl]
  · rw [if_pos (by omega), if_neg (by omega)]

/-! ### slice5 -/
/-- The part that holds a time. -/
def atL (kind agg size slide : Int) (bs : List Int) (rank t : Int) : Int × Int × Int :=
  if uMay kind agg size slide bs rank = true ∧ -1099511627776 ≤ t ∧ t ≤ 1099511627776 then (t - t % uOf kind size slide, t - t % uOf kind size slide + uOf kind size slide, 0) else (0, 0, 500)
theorem time5_eq (t : Int) : window_TimeMay.f t = some (decide (-1099511627776 ≤ t ∧ t ≤ 1099511627776)) := by
  unfold window_TimeMay.f
  by_cases c : t ≥ -1099511627776
  · rw [if_pos c]; congr 1; exact decide_eq_decide.2 (by omega)
  · rw [if_neg c]; congr 1; symm; exact decide_eq_false (by omega)
theorem at_eq (kind agg size slide : Int) (bs : List Int) (rank t : Int) (k : Nat) (hk : 1073741840 ≤ k) : slice_At.f k kind agg size slide bs rank t = some (atL kind agg size slide bs rank t) := by
  unfold slice_At.f atL
  rw [unit_eq kind agg size slide bs rank k hk, Option.bind_some]
  have hp := @uMay_parts kind agg size slide rank bs
  unfold unitL
  generalize uMay kind agg size slide bs rank = um at *
  cases um with
  | false => rw [if_neg (show ¬ (false = true) by decide), if_neg (show ¬ (false = true ∧ _) from fun h => Bool.noConfusion h.1)]; rfl
  | true =>
    rw [if_pos rfl, time5_eq, Option.bind_some]
    obtain ⟨_, _, p1, p2, p3, p4, _⟩ := hp rfl
    dsimp only
    rw [if_pos rfl]
    by_cases c : -1099511627776 ≤ t ∧ t ≤ 1099511627776
    · rw [if_pos (decide_eq_true c), if_pos ⟨rfl, c.1, c.2⟩, mod_eq p3 (by omega), Option.bind_some]
      have h0 := Int.emod_nonneg t (show uOf kind size slide ≠ 0 by omega)
      have h1 := Int.emod_lt_of_pos t (show 0 < uOf kind size slide by omega)
      dsimp only
      rw [w64_id (n := t - t % uOf kind size slide) (by omega) (by omega), w64_id (by omega) (by omega)]
    · rw [if_neg (by simpa using c), if_neg (fun h => c h.2)]
theorem runit_eq (kind agg size slide : Int) (bs : List Int) (rank : Int) (k : Nat) (hk : 1073741850 ≤ k) : bourneref1_Unit.f k kind agg size slide bs rank = some (unitL kind agg size slide bs rank) := by
  unfold bourneref1_Unit.f
  rw [rq_eq kind agg size slide bs rank k (by omega), Option.bind_some]
  obtain ⟨k, rfl⟩ : ∃ m, k = m + 1 := ⟨k - 1, by omega⟩
  have hu : uMay kind agg size slide bs rank = (qMay kind agg size slide bs rank && decide (kind ≠ 2)) := rfl
  have hq := @qMay_parts kind agg size slide rank bs
  unfold unitL
  generalize uMay kind agg size slide bs rank = um at *
  generalize qMay kind agg size slide bs rank = mv at *
  subst hu
  cases mv with
  | false => rw [if_neg (by decide)]; simp only [bourneref1_Unit.j0]; rw [if_pos True.intro, Bool.false_and, if_neg (by decide)]
  | true =>
    rw [if_pos rfl, Bool.true_and]
    simp only [bourneref1_Unit.j0]
    by_cases k2 : kind = 2
    · subst k2; rfl
    · rw [if_neg (by simpa using k2), decide_eq_true k2, if_pos rfl]
      unfold uOf
      by_cases k0 : kind = 0
      · rw [if_pos k0, if_pos k0]
      · rw [if_neg k0, if_neg k0]
        obtain ⟨a, b, _, c⟩ := hq rfl
        rcases c with ⟨rfl, c1, c2, _, c3⟩ | ⟨c1, rfl⟩
        · rw [rgcd_eq a c1 k (by omega), Option.bind_some]
        · omega
theorem rat_eq (kind agg size slide : Int) (bs : List Int) (rank t : Int) (k : Nat) (hk : 1073741850 ≤ k) : bourneref1_At.f k kind agg size slide bs rank t = some (atL kind agg size slide bs rank t) := by
  unfold bourneref1_At.f atL
  rw [runit_eq kind agg size slide bs rank k hk, Option.bind_some]
  have hp := @uMay_parts kind agg size slide rank bs
  unfold unitL
  generalize uMay kind agg size slide bs rank = um at *
  cases um with
  | false => rw [if_neg (show ¬ (false = true) by decide), if_neg (show ¬ (false = true ∧ _) from fun h => Bool.noConfusion h.1)]; rfl
  | true =>
    rw [if_pos rfl, rwithin_time, Option.bind_some]
    obtain ⟨_, _, p1, p2, p3, p4, _⟩ := hp rfl
    dsimp only
    rw [if_pos rfl]
    by_cases c : -1099511627776 ≤ t ∧ t ≤ 1099511627776
    · rw [if_pos (decide_eq_true c), if_pos ⟨rfl, c.1, c.2⟩, down_eq p3 (by omega) (by omega), Option.bind_some]
      have h0 := Int.emod_nonneg t (show uOf kind size slide ≠ 0 by omega)
      have h1 := Int.emod_lt_of_pos t (show 0 < uOf kind size slide by omega)
      have e := Int.mul_ediv_add_emod t (uOf kind size slide)
      rw [Int.mul_comm] at e
      rw [w64_id (n := t / uOf kind size slide * uOf kind size slide) (by omega) (by omega), show t / uOf kind size slide * uOf kind size slide = t - t % uOf kind size slide by omega, w64_id (by omega) (by omega)]
    · rw [if_neg (by simpa using c), if_neg (fun h => c h.2)]
theorem rcut_l0 (u s e : Int) (n : Nat) (hu : 1 ≤ u) (hu2 : u ≤ 1073741824) (hn : n ≤ 256) (he : e = s + (n : Int) * u) (h1 : -2199023255552 ≤ s) (h2 : e ≤ 2199023255552) (d : Nat) :
    ∀ (K j : Nat), j + d = n → d < K → bourneref1_Cut.l0 K u (spans s u u j) (s + (j : Int) * u) s e = some (spans s u u n, 0) := by
  induction d with
  | zero =>
    intro K j hj hK
    obtain ⟨K, rfl⟩ : ∃ q, K = q + 1 := ⟨K - 1, by omega⟩
    simp only [bourneref1_Cut.l0]
    obtain rfl : j = n := by omega
    rw [if_neg (by omega)]
  | succ d ih =>
    intro K j hj hK
    obtain ⟨K, rfl⟩ : ∃ q, K = q + 1 := ⟨K - 1, by omega⟩
    have ih := ih K (j + 1) (by omega) (by omega)
    simp only [bourneref1_Cut.l0]
    have hlen := spans_len s u u j
    have h0 : 0 ≤ (j : Int) * u := Int.mul_nonneg (by omega) (by omega)
    have hx := Int.mul_le_mul_of_nonneg_right (show (j : Int) + 1 ≤ n by omega) (show 0 ≤ u by omega)
    rw [Int.add_mul, Int.one_mul] at hx
    rw [if_pos (by omega), if_pos (by omega), w64_id (by omega) (by omega), ← spans_snoc]
    rw [show s + ((j + 1 : Nat) : Int) * u = s + (j : Int) * u + u by rw [Int.natCast_add, Int.add_mul]; omega] at ih
    exact ih
theorem rcut_eq (kind agg size slide : Int) (bs : List Int) (rank s e : Int) (he0 : -9223372036854775808 ≤ s) (k : Nat) (hk : 1073741850 ≤ k) : bourneref1_Cut.f k kind agg size slide bs rank s e = some (cutL kind agg size slide bs rank s e) := by
  unfold bourneref1_Cut.f cutL cutMay
  rw [runit_eq kind agg size slide bs rank k hk, Option.bind_some]
  obtain ⟨k, rfl⟩ : ∃ m, k = m + 1 := ⟨k - 1, by omega⟩
  have hp := @uMay_parts kind agg size slide rank bs
  have hin := @wstep_in kind agg size slide rank bs
  have hst := rstep_eq kind agg size slide bs rank
  unfold unitL isB
  generalize uMay kind agg size slide bs rank = um at *
  cases um with
  | false =>
    rw [if_neg (show ¬ (false = true) by decide), Bool.false_and, if_neg (show ¬ (false = true) by decide)]
    dsimp only
    rw [if_neg (by decide)]
    simp only [bourneref1_Cut.j0]
    rw [if_pos True.intro]
  | true =>
    rw [if_pos rfl, Bool.true_and]
    obtain ⟨hq, k2, p1, p2, p3, p4, p5, p6, p7⟩ := hp rfl
    obtain ⟨s1, s2, _, _⟩ := hin hq k2
    dsimp only
    rw [if_pos rfl]
    by_cases c1 : s < -1100585369600
    · rw [if_pos c1, decide_eq_false (by omega), Bool.false_and, if_neg (by decide)]; simp only [bourneref1_Cut.j0]; rw [if_pos True.intro]
    · rw [if_neg c1]
      by_cases c2 : s > 1099511627776
      · rw [if_pos c2, decide_eq_false (by omega), Bool.false_and, if_neg (by decide)]; simp only [bourneref1_Cut.j0]; rw [if_pos True.intro]
      · rw [if_neg c2, w64_id (by omega) (by omega)]
        by_cases c3 : e = s + size
        · rw [if_pos c3]
          by_cases c4 : e ≤ -1099511627776
          · rw [if_pos c4, decide_eq_false (by omega), Bool.false_and, if_neg (by decide)]; simp only [bourneref1_Cut.j0]; rw [if_pos True.intro]
          · rw [if_neg c4, hst hq k2, Option.bind_some, if_neg (by omega), decide_eq_true (by omega), Bool.true_and]
            generalize wstep kind size slide = st at *
            by_cases c5 : Int.tmod s st = 0
            · have hm : s % st = 0 := Int.emod_eq_zero_of_dvd (Int.dvd_of_tmod_eq_zero c5)
              rw [hm, c5, if_pos (show decide ((0 : Int) = 0) = true from rfl)]
              simp only [bourneref1_Cut.j0]
              rw [if_neg (by decide)]
              obtain ⟨n, hn⟩ := Int.eq_ofNat_of_zero_le (show 0 ≤ size / uOf kind size slide from Int.ediv_nonneg (by omega) (by omega))
              have hnu : size = (n : Int) * uOf kind size slide := by rw [← hn, Int.ediv_mul_cancel p5]
              rw [show (size / uOf kind size slide).toNat = n by omega]
              generalize uOf kind size slide = u at *
              have h := rcut_l0 u s e n p3 (by omega) (by omega) (by omega) (by omega) (by omega) n k 0 (by omega) (by omega)
              rw [show spans s u u 0 = [] by unfold spans; rfl, show s + ((0 : Nat) : Int) * u = s by simp] at h
              exact h
            · have hm : s % st ≠ 0 := fun h => c5 (Int.tmod_eq_zero_of_dvd (Int.dvd_of_emod_eq_zero h))
              rw [decide_eq_false hm, if_neg (by decide)]
              simp only [bourneref1_Cut.j0]
              rw [if_pos (by simpa using c5)]
        · rw [if_neg c3, decide_eq_false (by omega), Bool.false_and, if_neg (by decide)]; simp only [bourneref1_Cut.j0]; rw [if_pos True.intro]
theorem cutL_len (kind agg size slide : Int) (bs : List Int) (rank s e : Int) : (cutL kind agg size slide bs rank s e).1.length ≤ 256 := by
  unfold cutL
  split
  · next h =>
    unfold cutMay at h
    rw [Bool.and_eq_true] at h
    obtain ⟨_, _, p1, p2, p3, p4, p5, p6, p7⟩ := uMay_parts h.1
    rw [spans_len]; omega
  · simp

/-! ### awake5 -/
theorem av1 : unitL 1 0 6 4 [] 0 = (2, 0) := by kernel_rfl
theorem av3 : cutL 1 0 6 4 [] 0 (-4) 2 = ([(⟨(-4), (-2)⟩ : S26), (⟨(-2), 0⟩ : S26), (⟨0, 2⟩ : S26)], 0) := by kernel_rfl
theorem av4 : cutL 1 0 6 4 [] 0 (-3) 3 = (([] : List S26), 500) := by kernel_rfl
theorem av5 : unitL 2 0 2 0 [] 0 = (0, 500) := by kernel_rfl
theorem awake5_eq (k : Nat) (hk : 1073741850 ≤ k) (hat : slice_At.f k 1 0 6 4 ([] : List Int) 0 (-1) = some (-2, 0, 0)) : bournelaw5_awake.f k = some true := by
  unfold bournelaw5_awake.f slice_Cut.f
  rw [unit_eq 1 0 6 4 [] 0 k (by omega), unit_eq 2 0 2 0 [] 0 k (by omega), av1, av3, av4, av5, hat]
  simp only [Option.bind_some, num_eq, if_true]
  rw [same_self _ (by simp) k (by simp; omega)]
  rfl

theorem av2 : atL 1 0 6 4 [] 0 (-1) = (-2, 0, 0) := by kernel_rfl
theorem Slices_pure (a0 a1 a2 a3 : Int) (bs : List Int) (a5 t s e : Int) (hs : -9223372036854775808 ≤ s) : ∃ k, bournelaw5_Slices.f k a0 a1 a2 a3 bs a5 t s e = some true := by
  refine ⟨1073741850, ?_⟩
  generalize hK : 1073741850 = K
  have hK2 : 1073741850 ≤ K := by omega
  clear hK
  have ha := awake5_eq K hK2 (by rw [at_eq _ _ _ _ _ _ _ K (by omega), av2])
  have hlen := cutL_len a0 a1 a2 a3 bs a5 s e
  unfold bournelaw5_Slices.f slice_Cut.f
  rw [unit_eq a0 a1 a2 a3 bs a5 K (by omega), Option.bind_some, runit_eq a0 a1 a2 a3 bs a5 K hK2, Option.bind_some, at_eq a0 a1 a2 a3 bs a5 t K (by omega), Option.bind_some, rat_eq a0 a1 a2 a3 bs a5 t K hK2, Option.bind_some, Option.bind_some, rcut_eq a0 a1 a2 a3 bs a5 s e hs K hK2, Option.bind_some]
  rw [if_pos rfl, num_eq, Option.bind_some, if_pos rfl, if_pos (by simp), num_eq, Option.bind_some, if_pos rfl, same_self _ (by omega) K (by omega), Option.bind_some, if_pos rfl, num_eq, Option.bind_some, if_pos rfl, ha, Option.bind_some]
theorem slices_walk (a0 a1 a2 a3 : Int) (A : Option Addr) (len cap : Nat) (z : List Int) (a5 t s e : Int) (w : World) (h0 : (Lit.int .i64 a0).wf = true) (h1 : (Lit.int .i64 a1).wf = true) (h2 : (Lit.int .i64 a2).wf = true) (h3 : (Lit.int .i64 a3).wf = true)
    (hr : (A = none ∧ len = 0 ∧ cap = 0 ∧ z = []) ∨ ∃ x, A = some x ∧ len ≤ cap ∧ cap ≤ maxLen ∧ z.length = cap ∧ (∀ i, i < z.length → w.cell? (x.add i) = some (.int .i64 (z.getD i 0))) ∧ ∀ n ∈ z, (Lit.int .i64 n).wf = true)
    (h5 : (Lit.int .i64 a5).wf = true) (ht : (Lit.int .i64 t).wf = true) (hs : (Lit.int .i64 s).wf = true) (he : (Lit.int .i64 e).wf = true) :
    Calls Try.prog 3 #[.agg #[.int .i64 a0, .int .i64 a1, .int .i64 a2, .int .i64 a3, .slice A len cap, .int .i64 a5], .int .i64 t, .agg #[.int .i64 s, .int .i64 e]] w fun e w' => e = .returned (.bool true) ∧ Below w.heap.size w w' := by
  obtain ⟨l, rfl, hl, hm, hw, hc⟩ := ReadsInt.ofRowC hr
  have hs2 : -9223372036854775808 ≤ s ∧ s ≤ 9223372036854775807 := by simpa [Lit.wf, IntKind.min, IntKind.max, IntKind.signed, IntKind.bits] using hs
  obtain ⟨k, h⟩ := Slices_pure a0 a1 a2 a3 l a5 t s e hs2.1
  exact bournelaw5_Slices.calls k a0 a1 a2 a3 A cap l a5 t s e true w (Kd.C_of_reads (d := (0 : Int)) (h1 := fun _ => rfl) hl) hc h

end Go.Proofs.Yticgnaladjmdoaa.Pure
