/- The law SlackForms of folder 16 answers true at any three numbers: its walk. No condition. -/
import Derived.Test.YtklegkmaiaegpaaSlackAwake
namespace Go.Proofs.Ytklegkmaiaegpaa.SlackFormsW
open Go.RowKit Go.Proofs.Ytklegkmaiaegpaa.SlackW Go.Proofs.YtklegkmaiaegpaaW.PrintWords Go.Proofs.YtklegkmaiaegpaaW.PrintLast Go.Proofs.YtklegkmaiaegpaaW.PrintMore
set_option linter.unusedVariables false
set_option linter.unusedSimpArgs false

/-! ### base -/
theorem wf_i64 {a : Int} (h : (Lit.int .i64 a).wf = true) : -9223372036854775808 ≤ a ∧ a ≤ 9223372036854775807 := by
  simpa [Lit.wf, IntKind.min, IntKind.max, IntKind.signed, IntKind.bits] using h
theorem wrap64_id {n : Int} (h1 : -9223372036854775808 ≤ n) (h2 : n ≤ 9223372036854775807) : wrap64 n = n := by
  unfold wrap64; omega
theorem toNat_ofInt64 (a : Int) : ((BitVec.ofInt 64 a).toNat : Int) = a % 18446744073709551616 := by
  rw [BitVec.toNat_ofInt]
  have h : (0 : Int) ≤ a % ((2 ^ 64 : Nat) : Int) := Int.emod_nonneg _ (by decide)
  rw [Int.toNat_of_nonneg h]; rfl
theorem wrap_i64_nat (n : Nat) (h : n < 9223372036854775808) : IntKind.i64.wrap (n : Int) = (n : Int) := by
  rw [IntKind.wrap_i64]; omega
theorem and_mask (a : Int) (j : Nat) (hj : j ≤ 63) : Go.bits .and .i64 a (2 ^ j - 1) = a % 2 ^ j := by
  have hp : 2 ^ j ≤ 2 ^ 63 := Nat.pow_le_pow_right (by decide) hj
  have hpos : 0 < 2 ^ j := Nat.two_pow_pos j
  have hc : ((2 : Int) ^ j - 1) = ((2 ^ j - 1 : Nat) : Int) := by
    rw [Int.natCast_sub hpos]; simp
  have hd : (2 : Int) ^ j ∣ 18446744073709551616 := ⟨2 ^ (64 - j), by rw [← Int.pow_add]; rw [show j + (64 - j) = 64 by omega]; rfl⟩
  show IntKind.i64.wrap (((BitVec.ofInt 64 a &&& BitVec.ofInt 64 (2 ^ j - 1)).toNat : Nat) : Int) = _
  rw [BitVec.toNat_and, hc, BitVec.ofInt_natCast, BitVec.toNat_ofNat, Nat.mod_eq_of_lt (Nat.lt_of_lt_of_le (Nat.sub_lt hpos (by decide)) (Nat.le_trans hp (by decide))), Nat.and_two_pow_sub_one_eq_mod]
  rw [wrap_i64_nat _ (Nat.lt_of_lt_of_le (Nat.mod_lt _ hpos) hp), Int.natCast_emod, toNat_ofInt64, Int.natCast_pow]
  exact Int.emod_emod_of_dvd a hd
theorem and_m (a : Int) (j : Nat) (m p : Int) (hj : j ≤ 63) (hp : (2 : Int) ^ j = p) (hm : m = p - 1) : Go.bits .and .i64 a m = a % p := by
  subst hm; rw [← hp]; exact and_mask a j hj

attribute [local go_sem] max2_int min2_int max_two min_two max_three min_three max_four min_four
set_option maxHeartbeats 1000000 in
theorem forms_calls (x late least xd k m : Int) (hx : Go.bits .and .i64 x 1023 = xd) (hx0 : 0 ≤ xd) (hx1 : xd ≤ 1023) (hk : Go.bits .and .i64 late 1023 = k) (hk0 : 0 ≤ k) (hk1 : k ≤ 1023)
    (hm : Int.tmod least 1000000 = m) (hm0 : -999999 ≤ m) (hm1 : m ≤ 999999) (w : World) :
    Calls Try.prog 5 #[.int .i64 x, .int .i64 late, .int .i64 least] w fun e w' => e = .returned (.bool true) ∧ Below w.heap.size w w' := by
  go_enter Try.func5, Try.ntmps5
  go_wp2_with fail
  refine (awake_calls _).mono ?_
  rintro e w0 ⟨rfl, hb0⟩
  have HB := Aside0.mk hb0
  clear hb0
  go_wp2_with fail
  refine (new_no _ (by omega) _).mono ?_
  rintro e w2 ⟨rfl, rfl⟩
  go_wp2_with fail
  refine (new_no _ (by omega) _).mono ?_
  rintro e w2 ⟨rfl, rfl⟩
  go_wp2_with fail
  refine (new_yes 1073741824 (by omega) (by omega) _).mono ?_
  rintro e w1 ⟨rfl, hw1⟩
  have hg : Aside0 (w1.heap[w0.heap.size]? = some (SB 43 1073741824 false 0 0)) := ⟨by rw [← hw1]; show (w0.heap.push _)[w0.heap.size]? = _; simp⟩
  have hs : Aside0 (w.heap.size ≤ w0.heap.size) := ⟨HB.out.size⟩
  replace HB : Aside0 (Below w.heap.size w w1) := ⟨by rw [← hw1]; exact below_alloc HB.out _⟩
  clear hw1
  go_wp2_with (go_at_call 10; (with_reducible refine (num_calls _ _).mono ?_); rintro e w' ⟨rfl, rfl⟩)
  refine (see_first w0.heap.size 1073741824 0 0 1099511627776 (by omega) (by omega) (by omega) (by omega) (by omega) (by omega) _ hg).mono ?_
  rintro e w3 ⟨rfl, HT⟩
  replace hg := Aside0.mk HT.at_
  replace HB := Aside0.mk (HB.out.trans (HT.below hs.out))
  clear HT
  go_wp2_with fail
  refine (see_no w0.heap.size _ (by omega) _).mono ?_
  rintro e w4 ⟨rfl, rfl⟩
  go_wp2_with fail
  refine (see_no w0.heap.size _ (by omega) _).mono ?_
  rintro e w4 ⟨rfl, rfl⟩
  go_wp2_with (first | (go_at_call 10; (with_reducible refine (num_calls _ _).mono ?_); rintro e w' ⟨rfl, rfl⟩) | (go_at_call 14; (with_reducible refine (k_calls w0.heap.size 1073741824 true 1099511627776 0 _ hg.out).mono ?_); rintro e w' ⟨rfl, rfl⟩))
  refine (line_yes m k (m - k) (by omega) (by omega) (by omega) (by omega) ⟨by omega⟩ _).mono ?_
  rintro e w4 ⟨rfl, rfl⟩
  go_wp2_with fail
  refine (line_no _ _ (by omega) _).mono ?_
  rintro e w4 ⟨rfl, rfl⟩
  go_wp2_with fail
  refine (line_no _ _ (by omega) _).mono ?_
  rintro e w4 ⟨rfl, rfl⟩
  go_wp2_with fail
  refine (line_no _ _ (by omega) _).mono ?_
  rintro e w4 ⟨rfl, rfl⟩
  go_wp2_with fail
  refine (line_yes _ _ (-4398046511104) (by omega) (by omega) (by omega) (by omega) ⟨by omega⟩ _).mono ?_
  rintro e w4 ⟨rfl, rfl⟩
  go_wp2_with fail
  go_ret
  exact ⟨rfl, HB.out⟩
theorem forms_walk (x late least : Int) (w : World) (h0 : (Lit.int .i64 x).wf = true) (h1 : (Lit.int .i64 late).wf = true) (h2 : (Lit.int .i64 least).wf = true) :
    Calls Try.prog 5 #[.int .i64 x, .int .i64 late, .int .i64 least] w fun e w' => e = .returned (.bool true) ∧ Below w.heap.size w w' := by
  have e1 := and_m x 10 1023 1024 (by omega) rfl rfl
  have e2 := and_m late 10 1023 1024 (by omega) rfl rfl
  have e3 := Int.tmod_lt_of_pos least (show (0 : Int) < 1000000 by omega)
  have e4 : -1000000 < Int.tmod least 1000000 := by
    have := Int.tmod_lt_of_pos (-least) (show (0 : Int) < 1000000 by omega)
    rw [Int.neg_tmod] at this
    omega
  exact forms_calls x late least _ _ _ e1 (by omega) (by omega) e2 (by omega) (by omega) rfl (by omega) (by omega) w

end Go.Proofs.Ytklegkmaiaegpaa.SlackFormsW
