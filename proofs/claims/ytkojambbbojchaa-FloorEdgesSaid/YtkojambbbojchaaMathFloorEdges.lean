/- The law FloorEdges answers true at any number: at the greatest and the least number nothing goes round. No condition. -/
import Derived.Test.YtkojambbbojchaaEdgesWalk
namespace Go.Proofs.Ytkojambbbojchaa.Edges
open Go.RowKit Go.Proofs.Ytkojambbbojchaa.PFloorRows Go.Proofs.YtkojambbbojchaaW.PrintWords Go.Proofs.YtkojambbbojchaaW.PrintLast Go.Proofs.YtkojambbbojchaaW.PrintMore
set_option linter.unusedVariables false
set_option linter.unusedSimpArgs false

/-! ### base -/
theorem wf_i64 {a : Int} (h : (Lit.int .i64 a).wf = true) : -9223372036854775808 ≤ a ∧ a ≤ 9223372036854775807 := by
  simpa [Lit.wf, IntKind.min, IntKind.max, IntKind.signed, IntKind.bits] using h
theorem wrap64_id {n : Int} (h1 : -9223372036854775808 ≤ n) (h2 : n ≤ 9223372036854775807) : wrap64 n = n := by
  unfold wrap64; omega
theorem toNat_ofInt64 (a : Int) : ((BitVec.ofInt 64 a).toNat : Int) = a % 18446744073709551616 := by
  rw [BitVec.toNat_ofInt]
  have h : (0 : Int) ≤ a % ((2 ^ 64 : Nat) : Int) := Int.emod_nonneg _ (by decide)
  rw [Int.toNat_of_nonneg h]; rfl
theorem wrap_i64_nat (n : Nat) (h : n < 9223372036854775808) : IntKind.i64.wrap (n : Int) = (n : Int) := by
  rw [IntKind.wrap_i64]; omega
theorem and_mask (a : Int) (j : Nat) (hj : j ≤ 63) : Go.bits .and .i64 a (2 ^ j - 1) = a % 2 ^ j := by
  have hp : 2 ^ j ≤ 2 ^ 63 := Nat.pow_le_pow_right (by decide) hj
  have hpos : 0 < 2 ^ j := Nat.two_pow_pos j
  have hc : ((2 : Int) ^ j - 1) = ((2 ^ j - 1 : Nat) : Int) := by
    rw [Int.natCast_sub hpos]; simp
  have hd : (2 : Int) ^ j ∣ 18446744073709551616 := ⟨2 ^ (64 - j), by rw [← Int.pow_add]; rw [show j + (64 - j) = 64 by omega]; rfl⟩
  show IntKind.i64.wrap (((BitVec.ofInt 64 a &&& BitVec.ofInt 64 (2 ^ j - 1)).toNat : Nat) : Int) = _
  rw [BitVec.toNat_and, hc, BitVec.ofInt_natCast, BitVec.toNat_ofNat, Nat.mod_eq_of_lt (Nat.lt_of_lt_of_le (Nat.sub_lt hpos (by decide)) (Nat.le_trans hp (by decide))), Nat.and_two_pow_sub_one_eq_mod]
  rw [wrap_i64_nat _ (Nat.lt_of_lt_of_le (Nat.mod_lt _ hpos) hp), Int.natCast_emod, toNat_ofInt64, Int.natCast_pow]
  exact Int.emod_emod_of_dvd a hd
theorem and_m (a : Int) (j : Nat) (m p : Int) (hj : j ≤ 63) (hp : (2 : Int) ^ j = p) (hm : m = p - 1) : Go.bits .and .i64 a m = a % p := by
  subst hm; rw [← hp]; exact and_mask a j hj

/-! ### floor -/
theorem tdiv_pos {a b : Int} (hb : 1 ≤ b) : Int.tdiv a b = a / b + (if Int.tmod a b < 0 then 1 else 0) ∧ Int.tmod a b = a % b - (if Int.tmod a b < 0 then b else 0) ∧ (Int.tmod a b < 0 → 0 < a % b) := by
  have h0 := Int.emod_nonneg a (show b ≠ 0 by omega)
  have h1 := Int.emod_lt_of_pos a (show 0 < b by omega)
  have hs : b.sign = 1 := Int.sign_eq_one_of_pos (by omega)
  have hd := Int.tdiv_eq_ediv (a := a) (b := b)
  have hm := Int.tmod_eq_emod (a := a) (b := b)
  by_cases c : 0 ≤ a ∨ b ∣ a
  · rw [if_pos c] at hd hm
    have hn : ¬ Int.tmod a b < 0 := by omega
    rw [if_neg hn, if_neg hn]
    exact ⟨by omega, by omega, fun h => absurd h hn⟩
  · rw [if_neg c] at hd hm
    have hlt : Int.tmod a b < 0 := by omega
    rw [if_pos hlt, if_pos hlt]
    have hz : a % b ≠ 0 := fun h => c (Or.inr (Int.dvd_of_emod_eq_zero h))
    exact ⟨by omega, by omega, fun _ => by omega⟩
theorem tmod_range {a b : Int} (hb : 1 ≤ b) : -b < Int.tmod a b ∧ Int.tmod a b < b := by
  obtain ⟨hd, hm, hz⟩ := tdiv_pos (a := a) hb
  have h0 := Int.emod_nonneg a (show b ≠ 0 by omega)
  have hl := Int.emod_lt_of_pos a (show 0 < b by omega)
  split at hm <;> omega
theorem div_bound {a b : Int} (hb : 1 ≤ b) (h1 : -9223372036854775808 ≤ a) (h2 : a ≤ 9223372036854775807) : -9223372036854775808 ≤ a / b ∧ a / b ≤ 9223372036854775807 := by
  have e := Int.mul_ediv_add_emod a b
  have h0 := Int.emod_nonneg a (show b ≠ 0 by omega)
  have hl := Int.emod_lt_of_pos a (show 0 < b by omega)
  constructor
  · exact Int.le_ediv_of_mul_le (by omega) (by omega)
  · by_cases h : 0 ≤ a
    · exact Int.le_trans (Int.ediv_le_self b h) h2
    · have : a / b < 0 := Int.ediv_neg_of_neg_of_pos (by omega) (by omega)
      omega
theorem div_eq {a b : Int} (hb : 1 ≤ b) (h1 : -9223372036854775808 ≤ a) (h2 : a ≤ 9223372036854775807) : floor_Div.f a b = some (a / b, 0) := by
  obtain ⟨hd, hm, hz⟩ := tdiv_pos (a := a) hb
  obtain ⟨g1, g2⟩ := div_bound hb h1 h2
  unfold floor_Div.f
  rw [if_neg (by omega), if_neg (by omega)]
  by_cases c : Int.tmod a b < 0
  · have hq : a / b + 1 ≤ 9223372036854775807 := by
      have : ¬ 0 ≤ a := fun h => by
        have := Int.tmod_nonneg b h
        omega
      have : a / b < 0 := Int.ediv_neg_of_neg_of_pos (by omega) (by omega)
      omega
    rw [if_pos c] at hd
    rw [if_pos c, hd, wrap64_id (n := a / b + 1) (by omega) (by omega), wrap64_id (by omega) (by omega)]
    congr 2; omega
  · rw [if_neg c] at hd
    rw [if_neg c, hd, wrap64_id (by omega) (by omega)]
    congr 2; omega
theorem div_none {a b : Int} (hb : b < 1) : floor_Div.f a b = some (0, 300) := by unfold floor_Div.f; rw [if_pos hb]
theorem mod_eq {a b : Int} (hb : 1 ≤ b) (h3 : b ≤ 9223372036854775807) : floor_Mod.f a b = some (a % b, 0) := by
  obtain ⟨hd, hm, hz⟩ := tdiv_pos (a := a) hb
  have h0 := Int.emod_nonneg a (show b ≠ 0 by omega)
  have hl := Int.emod_lt_of_pos a (show 0 < b by omega)
  unfold floor_Mod.f
  rw [if_neg (by omega), if_neg (by omega)]
  by_cases c : Int.tmod a b < 0
  · rw [if_pos c] at hm
    rw [if_pos c, hm, wrap64_id (by omega) (by omega)]
    congr 2; omega
  · rw [if_neg c] at hm
    rw [if_neg c, hm]
    congr 2; omega
theorem mod_none {a b : Int} (hb : b < 1) : floor_Mod.f a b = some (0, 300) := by unfold floor_Mod.f; rw [if_pos hb]
theorem gcd_l0 (n : Nat) : ∀ (a b : Nat), b ≤ n → ∀ k, n < k → floor_Gcd.l0 k (a : Int) (b : Int) = some (((Nat.gcd a b : Nat) : Int), 0) := by
  induction n with
  | zero =>
    intro a b hb k hk
    obtain ⟨k, rfl⟩ : ∃ m, k = m + 1 := ⟨k - 1, by omega⟩
    obtain rfl : b = 0 := by omega
    simp only [floor_Gcd.l0]; rw [if_neg (by omega), Nat.gcd_zero_right]
  | succ n ih =>
    intro a b hb k hk
    obtain ⟨k, rfl⟩ : ∃ m, k = m + 1 := ⟨k - 1, by omega⟩
    by_cases h : b = 0
    · subst h
      simp only [floor_Gcd.l0]; rw [if_neg (by omega), Nat.gcd_zero_right]
    · simp only [floor_Gcd.l0]; rw [if_pos (by omega), if_neg (by omega), ← Int.ofNat_tmod]
      have hlt := Nat.mod_lt a (show b > 0 by omega)
      rw [ih b (a % b) (by omega) k (by omega)]
      congr 3
      rw [Nat.gcd_comm b (a % b), ← Nat.gcd_rec, Nat.gcd_comm]
theorem gcd_ev {a b : Int} (ha : 1 ≤ a) (hb : 1 ≤ b) : ∀ k, b.toNat + 2 ≤ k → floor_Gcd.f k a b = some (((Nat.gcd a.toNat b.toNat : Nat) : Int), 0) := by
  intro k hk
  unfold floor_Gcd.f
  obtain ⟨k, rfl⟩ : ∃ m, k = m + 1 := ⟨k - 1, by omega⟩
  rw [if_neg (by omega), decide_eq_false (by omega)]
  simp only [floor_Gcd.j0]
  have h := gcd_l0 b.toNat a.toNat b.toNat (Nat.le_refl _) k (by omega)
  rw [Int.toNat_of_nonneg (by omega), Int.toNat_of_nonneg (by omega)] at h
  simpa using h
theorem gcd_none {a b : Int} (h : a < 1 ∨ b < 1) : ∀ k, 1 ≤ k → floor_Gcd.f k a b = some (0, 300) := by
  intro k hk
  obtain ⟨k, rfl⟩ : ∃ m, k = m + 1 := ⟨k - 1, by omega⟩
  unfold floor_Gcd.f
  by_cases c : a < 1
  · rw [if_pos c]; simp [floor_Gcd.j0]
  · rw [if_neg c, decide_eq_true (by omega)]; simp [floor_Gcd.j0]
theorem parts {y q r n : Int} (h : n = y * q + r) (h0 : 0 ≤ r) (h1 : r < y) : n / y = q ∧ n % y = r :=
  (Int.ediv_emod_unique (by omega)).2 ⟨by omega, h0, h1⟩

/-! ### awake3 -/
theorem awake_ev : ∀ k, 30 ≤ k → bournelaw3_awake.f k = some true := fun k hk => at_rounds bournelaw3_awake.mono hk (by decide +kernel)
theorem num (a : Int) : bournelaw0_Num.f a = some a := rfl

theorem edges_walk (a : Int) (w : World) (ha : (Lit.int .i64 a).wf = true) :
    Calls Try.prog 8 #[.int .i64 a] w fun e w' => e = .returned (.bool true) ∧ Below w.heap.size w w' := by
  have hn := and_m a 40 1099511627775 1099511627776 (by decide) rfl rfl
  have hy : wrap64 (2 + (Go.bits .and .i64 a 1099511627775)) = 2 + a % 1099511627776 := by rw [hn]; exact wrap64_id (by omega) (by omega)
  clear hn
  obtain ⟨y1, y2⟩ : 2 ≤ 2 + a % 1099511627776 ∧ 2 + a % 1099511627776 ≤ 1099511627777 := by omega
  generalize 2 + a % 1099511627776 = y at *
  have e := Int.mul_ediv_add_emod 9223372036854775807 y
  have h0 := Int.emod_nonneg 9223372036854775807 (show y ≠ 0 by omega)
  have hl := Int.emod_lt_of_pos 9223372036854775807 (show 0 < y by omega)
  have e' := Int.mul_ediv_add_emod (-9223372036854775808) y
  have h0' := Int.emod_nonneg (-9223372036854775808) (show y ≠ 0 by omega)
  have hl' := Int.emod_lt_of_pos (-9223372036854775808) (show 0 < y by omega)
  have hneg : (-9223372036854775808) / y < 0 := Int.ediv_neg_of_neg_of_pos (by omega) (by omega)
  obtain ⟨g1, g2⟩ := div_bound (a := -9223372036854775808) (show 1 ≤ y by omega) (by omega) (by omega)
  have hc : 9223372036854775807 / y * y = 9223372036854775807 - 9223372036854775807 % y := by rw [Int.mul_comm]; omega
  have hc' : ((-9223372036854775808) / y + 1) * y = -9223372036854775808 - (-9223372036854775808) % y + y := by rw [Int.mul_comm, Int.mul_add]; omega
  have d1 := div_eq (a := 9223372036854775807) (b := y) (by omega) (by omega) (by omega)
  have d2 := mod_eq (a := 9223372036854775807) (b := y) (by omega) (by omega)
  have d3 := div_eq (a := -9223372036854775808) (b := y) (by omega) (by omega) (by omega)
  have d4 := mod_eq (a := -9223372036854775808) (b := y) (by omega) (by omega)
  have d5 : floor_Div.f (-9223372036854775808) 1 = some (-9223372036854775808, 0) := by decide +kernel
  have d6 : floor_Mod.f (-9223372036854775808) 1 = some (0, 0) := by decide +kernel
  have d7 : floor_Div.f (-9223372036854775808) 9223372036854775807 = some (-2, 0) := by decide +kernel
  have b1 : wrap64 (wrap64 (9223372036854775807 / y * y) + 9223372036854775807 % y) = 9223372036854775807 := by
    rw [hc, wrap64_id (n := 9223372036854775807 - 9223372036854775807 % y) (by omega) (by omega), wrap64_id (by omega) (by omega)]; omega
  have b7 : wrap64 (wrap64 (wrap64 ((-9223372036854775808) / y + 1) * y) - wrap64 (y - (-9223372036854775808) % y)) = -9223372036854775808 := by
    clear b1
    rw [wrap64_id (n := (-9223372036854775808) / y + 1) (by omega) (by omega), hc', wrap64_id (n := y - (-9223372036854775808) % y) (by omega) (by omega), wrap64_id (n := -9223372036854775808 - (-9223372036854775808) % y + y) (by omega) (by omega), wrap64_id (by omega) (by omega)]; omega
  refine (edges_calls 30 a y _ _ _ _ w ⟨awake_ev 30 (by omega)⟩ ⟨hy⟩ ⟨d1⟩ ⟨d2⟩ ⟨d3⟩ ⟨d4⟩ ⟨d5⟩ ⟨d6⟩ ⟨d7⟩ ⟨rfl⟩ ⟨b1⟩ (decide_eq_true h0) (decide_eq_true hl) (decide_eq_true hneg) (decide_eq_true h0') (decide_eq_true hl') ⟨b7⟩).mono ?_
  rintro e w' ⟨rfl, hd⟩
  exact ⟨rfl, hd.below⟩

end Go.Proofs.Ytkojambbbojchaa.Edges
