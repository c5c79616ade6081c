/- The law SliceRows answers true at any query and time: parts stand one behind the other without gaps. No condition. -/
import Derived.Test.YticgnaladjmdoaaQSliceRowsx5
namespace Go.Proofs.Yticgnaladjmdoaa.Pure
open Go.RowKit Go.Proofs.Yticgnaladjmdoaa.QSliceRows Go.Proofs.YticgnaladjmdoaaW.PrintWords Go.Proofs.YticgnaladjmdoaaW.PrintLast Go.Proofs.YticgnaladjmdoaaW.PrintMore
set_option linter.unusedVariables false
set_option linter.unusedSimpArgs false

/-! ### win5 -/
theorem num_eq (a : Int) : bournelaw0_Num.f a = some a := rfl
theorem rd26_nat (xs : List S26) (i : Nat) : rd_T26 xs (i : Int) = xs.getD i z26 := by unfold rd_T26; rw [Int.toNat_natCast]
theorem same_l0 (xs : List S26) (hn : xs.length ≤ 4611686018427267904) (d : Nat) : ∀ (k i : Nat), i + d = xs.length → d < k → bournelaw0_SameSpans.l0 k xs xs (i : Int) = some true := by
  induction d with
  | zero =>
    intro k i hi hk
    obtain ⟨k, rfl⟩ : ∃ m, k = m + 1 := ⟨k - 1, by omega⟩
    simp only [bournelaw0_SameSpans.l0]
    rw [if_neg (by omega)]
  | succ d ih =>
    intro k i hi hk
    obtain ⟨k, rfl⟩ : ∃ m, k = m + 1 := ⟨k - 1, by omega⟩
    simp only [bournelaw0_SameSpans.l0]
    rw [if_pos (by omega), if_pos (by omega), if_pos (by omega), if_neg (by simp), w64_id (by omega) (by omega)]
    exact ih k (i + 1) (by omega) (by omega)
theorem same_self (xs : List S26) (hn : xs.length ≤ 4611686018427267904) (k : Nat) (hk : xs.length < k) : bournelaw0_SameSpans.f k xs xs = some true := by
  unfold bournelaw0_SameSpans.f
  rw [if_pos rfl]
  exact same_l0 xs hn xs.length k 0 (by omega) hk
theorem winL_ok {kind agg size slide rank t : Int} {bs : List Int} (h : wMay kind agg size slide bs rank t = true) : winL kind agg size slide bs rank t = (spans (wfirst (wstep kind size slide) size t) (wstep kind size slide) size (wmany (wstep kind size slide) size t), 0) := by
  unfold winL; rw [if_pos h]
theorem winL_no {kind agg size slide rank t : Int} {bs : List Int} (h : wMay kind agg size slide bs rank t = false) : winL kind agg size slide bs rank t = ([], 400) := by
  unfold winL; rw [if_neg (by rw [h]; decide)]
theorem spans_get (s k m : Int) (n i : Nat) (h : i < n) : (spans s k m n).getD i z26 = ⟨s + (i : Int) * k, s + (i : Int) * k + m⟩ := by
  unfold spans
  rw [List.getD_eq_getElem?_getD, List.getElem?_map, List.getElem?_range h]; rfl
theorem wmany_pos (k m t : Int) (hk : 1 ≤ k) (hkm : k ≤ m) : 1 ≤ wmany k m t := by
  have hf := wfirst_in k m t hk
  have := (wmany_le k m t hk hkm 0).1 (by omega)
  omega
theorem wstep_sl (size slide : Int) : wstep 1 size slide = slide := by unfold wstep; rw [if_pos rfl]
theorem wstep_tu (size slide : Int) : wstep 0 size slide = size := by unfold wstep; rw [if_neg (by omega)]

/-! ### slice5f -/
/-- The part that holds a time. -/
def atL (kind agg size slide : Int) (bs : List Int) (rank t : Int) : Int × Int × Int :=
  if uMay kind agg size slide bs rank = true ∧ -1099511627776 ≤ t ∧ t ≤ 1099511627776 then (t - t % uOf kind size slide, t - t % uOf kind size slide + uOf kind size slide, 0) else (0, 0, 500)
theorem time5_eq (t : Int) : window_TimeMay.f t = some (decide (-1099511627776 ≤ t ∧ t ≤ 1099511627776)) := by
  unfold window_TimeMay.f
  by_cases c : t ≥ -1099511627776
  · rw [if_pos c]; congr 1; exact decide_eq_decide.2 (by omega)
  · rw [if_neg c]; congr 1; symm; exact decide_eq_false (by omega)
theorem at5_eq (kind agg size slide : Int) (bs : List Int) (rank t : Int) (k : Nat) (hk : 1073741840 ≤ k) : slice_At.f k kind agg size slide bs rank t = some (atL kind agg size slide bs rank t) := by
  unfold slice_At.f atL
  rw [unit_eq kind agg size slide bs rank k hk, Option.bind_some]
  have hp := @uMay_parts kind agg size slide rank bs
  unfold unitL
  generalize uMay kind agg size slide bs rank = um at *
  cases um with
  | false => rw [if_neg (show ¬ (false = true) by decide), if_neg (show ¬ (false = true ∧ _) from fun h => Bool.noConfusion h.1)]; rfl
  | true =>
    rw [if_pos rfl, time5_eq, Option.bind_some]
    obtain ⟨_, _, p1, p2, p3, p4, _⟩ := hp rfl
    dsimp only
    rw [if_pos rfl]
    by_cases c : -1099511627776 ≤ t ∧ t ≤ 1099511627776
    · rw [if_pos (decide_eq_true c), if_pos ⟨rfl, c.1, c.2⟩, mod_eq p3 (by omega), Option.bind_some]
      have h0 := Int.emod_nonneg t (show uOf kind size slide ≠ 0 by omega)
      have h1 := Int.emod_lt_of_pos t (show 0 < uOf kind size slide by omega)
      dsimp only
      rw [w64_id (n := t - t % uOf kind size slide) (by omega) (by omega), w64_id (by omega) (by omega)]
    · rw [if_neg (by simpa using c), if_neg (fun h => c h.2)]
theorem av2 : atL 1 0 6 4 [] 0 (-1) = (-2, 0, 0) := by kernel_rfl

/-! ### awake5 -/
theorem av1 : unitL 1 0 6 4 [] 0 = (2, 0) := by kernel_rfl
theorem av3 : cutL 1 0 6 4 [] 0 (-4) 2 = ([(⟨(-4), (-2)⟩ : S26), (⟨(-2), 0⟩ : S26), (⟨0, 2⟩ : S26)], 0) := by kernel_rfl
theorem av4 : cutL 1 0 6 4 [] 0 (-3) 3 = (([] : List S26), 500) := by kernel_rfl
theorem av5 : unitL 2 0 2 0 [] 0 = (0, 500) := by kernel_rfl
theorem awake5_eq (k : Nat) (hk : 1073741850 ≤ k) (hat : slice_At.f k 1 0 6 4 ([] : List Int) 0 (-1) = some (-2, 0, 0)) : bournelaw5_awake.f k = some true := by
  unfold bournelaw5_awake.f slice_Cut.f
  rw [unit_eq 1 0 6 4 [] 0 k (by omega), unit_eq 2 0 2 0 [] 0 k (by omega), av1, av3, av4, av5, hat]
  simp only [Option.bind_some, num_eq, if_true]
  rw [same_self _ (by simp) k (by simp; omega)]
  rfl

theorem SliceRows_pure (a0 a1 a2 a3 : Int) (bs : List Int) (a5 x : Int) : ∃ k, bournelaw5_SliceRows.f k a0 a1 a2 a3 bs a5 x = some true := by
  refine ⟨1073741851, ?_⟩
  generalize hK : 1073741851 = K
  have hK2 : 1073741851 ≤ K := by omega
  clear hK
  have ha := awake5_eq K (by omega) (by rw [at5_eq _ _ _ _ _ _ _ K (by omega), av2])
  have hat := fun t => at5_eq a0 a1 a2 a3 bs a5 t K (by omega)
  unfold bournelaw5_SliceRows.f
  rw [ha, Option.bind_some, if_pos rfl, unit_eq a0 a1 a2 a3 bs a5 K (by omega), Option.bind_some]
  have t1 := Int.tmod_lt_of_pos x (show (0 : Int) < 1000000 by omega)
  have t2 : -1000000 < Int.tmod x 1000000 := by
    have := Int.tmod_lt_of_pos (-x) (show (0 : Int) < 1000000 by omega)
    rw [Int.neg_tmod] at this
    omega
  generalize Int.tmod x 1000000 = t at *
  have hp := @uMay_parts a0 a1 a2 a3 a5 bs
  have hatv : ∀ t, atL a0 a1 a2 a3 bs a5 t = if uMay a0 a1 a2 a3 bs a5 = true ∧ -1099511627776 ≤ t ∧ t ≤ 1099511627776 then (t - t % uOf a0 a2 a3, t - t % uOf a0 a2 a3 + uOf a0 a2 a3, 0) else (0, 0, 500) := fun _ => rfl
  unfold unitL
  generalize uMay a0 a1 a2 a3 bs a5 = um at *
  cases um with
  | false =>
    rw [if_neg (show ¬ (false = true) by decide)]
    simp only [num_eq, Option.bind_some]
    rw [if_neg (by decide), hat, hatv, if_neg (show ¬ (false = true ∧ _) from fun h => Bool.noConfusion h.1)]
    rfl
  | true =>
    rw [if_pos rfl]
    simp only [num_eq, Option.bind_some, if_true]
    obtain ⟨_, _, p1, p2, p3, p4, _⟩ := hp rfl
    generalize uOf a0 a2 a3 = u at *
    have h0 := Int.emod_nonneg t (show u ≠ 0 by omega)
    have h1 := Int.emod_lt_of_pos t (show 0 < u by omega)
    have hd : u ∣ t - t % u := Int.dvd_self_sub_emod
    rw [hat t, hatv, if_pos ⟨rfl, by omega, by omega⟩, Option.bind_some]
    dsimp only
    generalize t % u = m at *
    generalize hs : t - m = s at *
    have e1 : (s + u) % u = 0 := Int.emod_eq_zero_of_dvd (Int.dvd_add hd (Int.dvd_refl _))
    have e2 : (s - 1) % u = u - 1 := by
      obtain ⟨q, hq⟩ := hd
      have : s - 1 = u * (q - 1) + (u - 1) := by rw [Int.mul_sub, Int.mul_one, hq]; omega
      rw [this, Int.mul_add_emod_self_left, Int.emod_eq_of_lt (by omega) (by omega)]
    rw [hat, hatv, if_pos ⟨rfl, by omega, by omega⟩, Option.bind_some, w64_id (n := s - 1) (by omega) (by omega), hat, hatv, if_pos ⟨rfl, by omega, by omega⟩, Option.bind_some, e1, e2]
    simp only [num_eq, Option.bind_some, if_true]
    rw [w64_id (n := s + u - s) (by omega) (by omega), if_pos (by omega), if_pos (by omega), if_pos (by omega), if_neg (by omega), if_pos (Int.tmod_eq_zero_of_dvd hd), if_pos (by omega), w64_id (by omega) (by omega), if_pos (by omega)]
    congr 1
    rw [beq_iff_eq]
    omega
theorem rows_walk (a0 a1 a2 a3 : Int) (A : Option Addr) (len cap : Nat) (z : List Int) (a5 t : Int) (w : World) (h0 : (Lit.int .i64 a0).wf = true) (h1 : (Lit.int .i64 a1).wf = true) (h2 : (Lit.int .i64 a2).wf = true) (h3 : (Lit.int .i64 a3).wf = true)
    (hr : (A = none ∧ len = 0 ∧ cap = 0 ∧ z = []) ∨ ∃ x, A = some x ∧ len ≤ cap ∧ cap ≤ maxLen ∧ z.length = cap ∧ (∀ i, i < z.length → w.cell? (x.add i) = some (.int .i64 (z.getD i 0))) ∧ ∀ n ∈ z, (Lit.int .i64 n).wf = true)
    (h5 : (Lit.int .i64 a5).wf = true) (ht : (Lit.int .i64 t).wf = true) :
    Calls Try.prog 6 #[.agg #[.int .i64 a0, .int .i64 a1, .int .i64 a2, .int .i64 a3, .slice A len cap, .int .i64 a5], .int .i64 t] w fun e w' => e = .returned (.bool true) ∧ Below w.heap.size w w' := by
  obtain ⟨l, rfl, hl, hm, hw, hc⟩ := ReadsInt.ofRowC hr
  obtain ⟨k, h⟩ := SliceRows_pure a0 a1 a2 a3 l a5 t
  exact bournelaw5_SliceRows.calls k a0 a1 a2 a3 A cap l a5 t true w (Kd.C_of_reads (d := (0 : Int)) (h1 := fun _ => rfl) hl) hc h

end Go.Proofs.Yticgnaladjmdoaa.Pure
