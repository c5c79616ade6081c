/- The law WindowMoves answers true at any query and numbers: a time that is moved by a multiple has its windows moved by it. No condition. -/
import Derived.Test.YtejgmbpcnabgjaaQWindowMovesx5
namespace Go.Proofs.Ytejgmbpcnabgjaa.Pure
open Go.RowKit Go.Proofs.Ytejgmbpcnabgjaa.QWindowMoves Go.Proofs.YtejgmbpcnabgjaaW.PrintWords Go.Proofs.YtejgmbpcnabgjaaW.PrintLast Go.Proofs.YtejgmbpcnabgjaaW.PrintMore
set_option linter.unusedVariables false
set_option linter.unusedSimpArgs false

/-! ### base -/
theorem wf_i64 {a : Int} (h : (Lit.int .i64 a).wf = true) : -9223372036854775808 ≤ a ∧ a ≤ 9223372036854775807 := by
  simpa [Lit.wf, IntKind.min, IntKind.max, IntKind.signed, IntKind.bits] using h
theorem wrap64_id {n : Int} (h1 : -9223372036854775808 ≤ n) (h2 : n ≤ 9223372036854775807) : wrap64 n = n := by
  unfold wrap64; omega
theorem toNat_ofInt64 (a : Int) : ((BitVec.ofInt 64 a).toNat : Int) = a % 18446744073709551616 := by
  rw [BitVec.toNat_ofInt]
  have h : (0 : Int) ≤ a % ((2 ^ 64 : Nat) : Int) := Int.emod_nonneg _ (by decide)
  rw [Int.toNat_of_nonneg h]; rfl
theorem wrap_i64_nat (n : Nat) (h : n < 9223372036854775808) : IntKind.i64.wrap (n : Int) = (n : Int) := by
  rw [IntKind.wrap_i64]; omega
theorem and_mask (a : Int) (j : Nat) (hj : j ≤ 63) : Go.bits .and .i64 a (2 ^ j - 1) = a % 2 ^ j := by
  have hp : 2 ^ j ≤ 2 ^ 63 := Nat.pow_le_pow_right (by decide) hj
  have hpos : 0 < 2 ^ j := Nat.two_pow_pos j
  have hc : ((2 : Int) ^ j - 1) = ((2 ^ j - 1 : Nat) : Int) := by
    rw [Int.natCast_sub hpos]; simp
  have hd : (2 : Int) ^ j ∣ 18446744073709551616 := ⟨2 ^ (64 - j), by rw [← Int.pow_add]; rw [show j + (64 - j) = 64 by omega]; rfl⟩
  show IntKind.i64.wrap (((BitVec.ofInt 64 a &&& BitVec.ofInt 64 (2 ^ j - 1)).toNat : Nat) : Int) = _
  rw [BitVec.toNat_and, hc, BitVec.ofInt_natCast, BitVec.toNat_ofNat, Nat.mod_eq_of_lt (Nat.lt_of_lt_of_le (Nat.sub_lt hpos (by decide)) (Nat.le_trans hp (by decide))), Nat.and_two_pow_sub_one_eq_mod]
  rw [wrap_i64_nat _ (Nat.lt_of_lt_of_le (Nat.mod_lt _ hpos) hp), Int.natCast_emod, toNat_ofInt64, Int.natCast_pow]
  exact Int.emod_emod_of_dvd a hd
theorem and_m (a : Int) (j : Nat) (m p : Int) (hj : j ≤ 63) (hp : (2 : Int) ^ j = p) (hm : m = p - 1) : Go.bits .and .i64 a m = a % p := by
  subst hm; rw [← hp]; exact and_mask a j hj

/-! ### win -/
theorem num_eq (a : Int) : bournelaw0_Num.f a = some a := rfl
theorem rd38_nat (xs : List S38) (i : Nat) : rd_T38 xs (i : Int) = xs.getD i z38 := by unfold rd_T38; rw [Int.toNat_natCast]
theorem same_l0 (xs : List S38) (hn : xs.length ≤ 4611686018427387904) (d : Nat) : ∀ (k i : Nat), i + d = xs.length → d < k → bournelaw0_SameSpans.l0 k xs xs (i : Int) = some true := by
  induction d with
  | zero =>
    intro k i hi hk
    obtain ⟨k, rfl⟩ : ∃ m, k = m + 1 := ⟨k - 1, by omega⟩
    simp only [bournelaw0_SameSpans.l0]
    rw [if_neg (by omega)]
  | succ d ih =>
    intro k i hi hk
    obtain ⟨k, rfl⟩ : ∃ m, k = m + 1 := ⟨k - 1, by omega⟩
    simp only [bournelaw0_SameSpans.l0]
    rw [if_pos (by omega), if_pos (by omega), if_pos (by omega), if_neg (by simp), w64_id (by omega) (by omega)]
    exact ih k (i + 1) (by omega) (by omega)
theorem same_self (xs : List S38) (hn : xs.length ≤ 4611686018427387904) (k : Nat) (hk : xs.length < k) : bournelaw0_SameSpans.f k xs xs = some true := by
  unfold bournelaw0_SameSpans.f
  rw [if_pos rfl]
  exact same_l0 xs hn xs.length k 0 (by omega) hk
theorem aw1 : winL 1 0 5 2 [] 0 4 = ([(⟨0, 5⟩ : S38), (⟨2, 7⟩ : S38), (⟨4, 9⟩ : S38)], 0) := by kernel_rfl
theorem aw2 : winL 2 0 5 0 [] 0 4 = (([] : List S38), 400) := by kernel_rfl
theorem aw3 : winL 0 0 10 0 [] 0 (-1) = ([(⟨(-10), 0⟩ : S38)], 0) := by kernel_rfl
theorem aw4 : qMay 1 0 5 2 [] 0 = true := by kernel_rfl
theorem aw5 : qMay 0 0 0 0 [] 0 = false := by kernel_rfl
theorem awake_eq (k : Nat) (hk : 4 ≤ k) : bournelaw4_awake.f k = some true := by
  unfold bournelaw4_awake.f window_Of.f window_May.f
  rw [aw1, aw2, aw3, aw4, aw5]
  simp only [Option.bind_some]
  rw [same_self _ (by simp) k (by simp; omega)]
  simp only [Option.bind_some, num_eq, if_true]
  rw [same_self _ (by simp) k (by simp; omega)]
  simp
theorem winL_ok {kind agg size slide rank t : Int} {bs : List Int} (h : wMay kind agg size slide bs rank t = true) : winL kind agg size slide bs rank t = (spans (wfirst (wstep kind size slide) size t) (wstep kind size slide) size (wmany (wstep kind size slide) size t), 0) := by
  unfold winL; rw [if_pos h]
theorem winL_no {kind agg size slide rank t : Int} {bs : List Int} (h : wMay kind agg size slide bs rank t = false) : winL kind agg size slide bs rank t = ([], 400) := by
  unfold winL; rw [if_neg (by rw [h]; decide)]
theorem spans_get (s k m : Int) (n i : Nat) (h : i < n) : (spans s k m n).getD i z38 = ⟨s + (i : Int) * k, s + (i : Int) * k + m⟩ := by
  unfold spans
  rw [List.getD_eq_getElem?_getD, List.getElem?_map, List.getElem?_range h]; rfl
theorem wmany_pos (k m t : Int) (hk : 1 ≤ k) (hkm : k ≤ m) : 1 ≤ wmany k m t := by
  have hf := wfirst_in k m t hk
  have := (wmany_le k m t hk hkm 0).1 (by omega)
  omega
theorem wstep_sl (size slide : Int) : wstep 1 size slide = slide := by unfold wstep; rw [if_pos rfl]
theorem wstep_tu (size slide : Int) : wstep 0 size slide = size := by unfold wstep; rw [if_neg (by omega)]

theorem div_move (a b k : Int) (hk : 1 ≤ k) : (a + b * k) / k = a / k + b := Int.add_mul_ediv_right a b (by omega)
theorem first_move (k m t b : Int) (hk : 1 ≤ k) : wfirst k m (t + b * k) = wfirst k m t + b * k := by
  unfold wfirst
  rw [show t + b * k - m = t - m + b * k by omega, div_move _ _ _ hk, Int.add_mul]
  omega
theorem many_move (k m t b : Int) (hk : 1 ≤ k) : wmany k m (t + b * k) = wmany k m t := by
  unfold wmany
  rw [first_move k m t b hk, show t + b * k - (wfirst k m t + b * k) = t - wfirst k m t by omega]
theorem moves_l0 (s k m by_ : Int) (N : Nat) (hN : N ≤ 64) (hk : 1 ≤ k) (hm : k ≤ m) (hm2 : m ≤ 1073741824) (h1 : -2199023255552 ≤ s) (h2 : s ≤ 2199023255552) (h3 : -2199023255552 ≤ by_) (h4 : by_ ≤ 2199023255552) (d : Nat) :
    ∀ (K i : Nat), i + d = N → d < K → bournelaw4_WindowMoves.l0 K by_ (spans s k m N) (spans (s + by_) k m N) (i : Int) = some true := by
  induction d with
  | zero =>
    intro K i hi hK
    obtain ⟨K, rfl⟩ : ∃ q, K = q + 1 := ⟨K - 1, by omega⟩
    simp only [bournelaw4_WindowMoves.l0]
    rw [spans_len, if_neg (by omega)]
  | succ d ih =>
    intro K i hi hK
    obtain ⟨K, rfl⟩ : ∃ q, K = q + 1 := ⟨K - 1, by omega⟩
    have ih := ih K (i + 1) (by omega) (by omega)
    simp only [bournelaw4_WindowMoves.l0]
    have g0 : 0 ≤ (i : Int) * k := Int.mul_nonneg (by omega) (by omega)
    have g1 : (i : Int) * k ≤ 64 * 1073741824 := Int.mul_le_mul (by omega) (by omega) (by omega) (by omega)
    rw [spans_len, spans_len, if_pos (by omega), if_pos (by omega), if_pos (by omega), rd38_nat, rd38_nat, spans_get _ _ _ _ _ (by omega), spans_get _ _ _ _ _ (by omega)]
    dsimp only
    rw [w64_id (n := s + (i : Int) * k + by_) (by omega) (by omega), if_pos (by omega), w64_id (n := s + (i : Int) * k + m + by_) (by omega) (by omega), if_pos (by omega), w64_id (n := (i : Int) + 1) (by omega) (by omega)]
    exact ih
theorem WindowMoves_pure (a0 a1 a2 a3 : Int) (bs : List Int) (a5 x y : Int) : ∃ k, bournelaw4_WindowMoves.f k a0 a1 a2 a3 bs a5 x y = some true := by
  refine ⟨200, ?_⟩
  generalize hK : 200 = K
  have hK2 : 200 ≤ K := by omega
  clear hK
  unfold bournelaw4_WindowMoves.f window_May.f
  rw [awake_eq K (by omega), Option.bind_some, if_pos rfl, Option.bind_some]
  obtain ⟨K, rfl⟩ : ∃ m, K = m + 3 := ⟨K - 3, by omega⟩
  have hin := @wstep_in a0 a1 a2 a3 a5 bs
  have hparts := @qMay_parts a0 a1 a2 a3 a5 bs
  have hw : ∀ t, wMay a0 a1 a2 a3 bs a5 t = (qMay a0 a1 a2 a3 bs a5 && decide (a0 ≠ 2 ∧ -1099511627776 ≤ t ∧ t ≤ 1099511627776)) := fun _ => rfl
  generalize qMay a0 a1 a2 a3 bs a5 = mv at *
  cases mv with
  | false => rw [if_neg (by decide)]; simp only [bournelaw4_WindowMoves.j0]; rw [if_pos True.intro]
  | true =>
    rw [if_pos rfl]
    by_cases k2 : a0 = 2
    · rw [if_pos k2]; simp only [bournelaw4_WindowMoves.j0]; rw [if_pos True.intro]
    · rw [if_neg k2]
      by_cases c : a2 > 1048576
      · rw [decide_eq_true c]; simp only [bournelaw4_WindowMoves.j0]; rw [if_pos True.intro]
      · rw [decide_eq_false c]
        obtain ⟨s1, s2, s3, s4⟩ := hin rfl k2
        obtain ⟨_, _, _, hp⟩ := hparts rfl
        simp only [bournelaw4_WindowMoves.j0]
        have t1 := Int.tmod_lt_of_pos x (show (0 : Int) < 1000000 by omega)
        have t2 : -1000000 < Int.tmod x 1000000 := by
          have := Int.tmod_lt_of_pos (-x) (show (0 : Int) < 1000000 by omega)
          rw [Int.neg_tmod] at this
          omega
        have y1 := Int.tmod_lt_of_pos y (show (0 : Int) < 1000 by omega)
        have y2 : -1000 < Int.tmod y 1000 := by
          have := Int.tmod_lt_of_pos (-y) (show (0 : Int) < 1000 by omega)
          rw [Int.neg_tmod] at this
          omega
        have core : bournelaw4_WindowMoves.j1 (K + 2) x y (wstep a0 a2 a3) a0 a1 a2 a3 bs a5 = some true := by
          simp only [bournelaw4_WindowMoves.j1]
          generalize Int.tmod x 1000000 = t at *
          generalize Int.tmod y 1000 = b at *
          have bb : -1099511627776 < b * wstep a0 a2 a3 ∧ b * wstep a0 a2 a3 < 1099511627776 - 1000000 := by
            have q1 : b * wstep a0 a2 a3 ≤ 999 * wstep a0 a2 a3 := Int.mul_le_mul_of_nonneg_right (by omega) (by omega)
            have q2 : (-999) * wstep a0 a2 a3 ≤ b * wstep a0 a2 a3 := Int.mul_le_mul_of_nonneg_right (by omega) (by omega)
            omega
          have bb2 : -1099511627776 + 1000000 < b * wstep a0 a2 a3 := by
            have q2 : (-999) * wstep a0 a2 a3 ≤ b * wstep a0 a2 a3 := Int.mul_le_mul_of_nonneg_right (by omega) (by omega)
            omega
          have w1 : wMay a0 a1 a2 a3 bs a5 t = true := by rw [hw, decide_eq_true ⟨k2, by omega, by omega⟩]; rfl
          have w2 : wMay a0 a1 a2 a3 bs a5 (t + b * wstep a0 a2 a3) = true := by rw [hw, decide_eq_true ⟨k2, by omega, by omega⟩]; rfl
          unfold window_Of.f
          rw [w64_id (n := b * wstep a0 a2 a3) (by omega) (by omega), w64_id (n := t + b * wstep a0 a2 a3) (by omega) (by omega), winL_ok w1, winL_ok w2, first_move _ _ _ _ s1, many_move _ _ _ _ s1]
          simp only [Option.bind_some, num_eq, if_true, spans_len]
          have hf := wfirst_in (wstep a0 a2 a3) a2 t s1
          have hpos := wmany_pos (wstep a0 a2 a3) a2 t s1 s2
          have h64 := wmany_64 (wstep a0 a2 a3) a2 t s1 s2 s4
          generalize wfirst (wstep a0 a2 a3) a2 t = s at *
          generalize wmany (wstep a0 a2 a3) a2 t = N at *
          generalize wstep a0 a2 a3 = st at *
          rw [if_neg (by omega), decide_eq_false (by omega)]
          simp only [bournelaw4_WindowMoves.j2]
          rw [if_neg (by decide)]
          exact moves_l0 s st a2 (b * st) N h64 s1 s2 s3 (by omega) (by omega) (by omega) (by omega) N K 0 (by omega) (by omega)
        rw [if_neg (by decide)]
        unfold wstep at core
        rcases hp with ⟨rfl, _⟩ | ⟨hp, _⟩
        · rw [if_pos rfl] at core
          rw [if_neg (by omega)]
          exact core
        · have : a0 = 0 := by omega
          subst this
          rw [if_neg (by omega)] at core
          rw [if_pos rfl]
          exact core
theorem moves_walk (a0 a1 a2 a3 : Int) (A : Option Addr) (len cap : Nat) (z : List Int) (a5 t b : Int) (w : World) (h0 : (Lit.int .i64 a0).wf = true) (h1 : (Lit.int .i64 a1).wf = true) (h2 : (Lit.int .i64 a2).wf = true) (h3 : (Lit.int .i64 a3).wf = true)
    (hr : (A = none ∧ len = 0 ∧ cap = 0 ∧ z = []) ∨ ∃ x, A = some x ∧ len ≤ cap ∧ cap ≤ maxLen ∧ z.length = cap ∧ (∀ i, i < z.length → w.cell? (x.add i) = some (.int .i64 (z.getD i 0))) ∧ ∀ n ∈ z, (Lit.int .i64 n).wf = true)
    (h5 : (Lit.int .i64 a5).wf = true) (ht : (Lit.int .i64 t).wf = true) (hb : (Lit.int .i64 b).wf = true) :
    Calls Try.prog 7 #[.agg #[.int .i64 a0, .int .i64 a1, .int .i64 a2, .int .i64 a3, .slice A len cap, .int .i64 a5], .int .i64 t, .int .i64 b] w fun e w' => e = .returned (.bool true) ∧ Below w.heap.size w w' := by
  obtain ⟨l, rfl, hl, hm, hw, hc⟩ := ReadsInt.ofRowC hr
  obtain ⟨k, h⟩ := WindowMoves_pure a0 a1 a2 a3 l a5 t b
  exact bournelaw4_WindowMoves.calls k a0 a1 a2 a3 A cap l a5 t b true w (Kd.C_of_reads (d := (0 : Int)) (h1 := fun _ => rfl) hl) hc h

end Go.Proofs.Ytejgmbpcnabgjaa.Pure
