/- The law Slacks of folder 16 answers true at any lateness, times and line: its walk. No condition. -/
import Derived.Test.YtklegkmaiaegpaaSlackAwake
import Derived.Deep.RegionWith
namespace Go.Proofs.Ytklegkmaiaegpaa.SlacksW
open Go.RowKit Go.Proofs.Ytklegkmaiaegpaa.SlackW Go.Proofs.YtklegkmaiaegpaaW.PrintWords Go.Proofs.YtklegkmaiaegpaaW.PrintLast Go.Proofs.YtklegkmaiaegpaaW.PrintMore
set_option linter.unusedVariables false
set_option linter.unusedSimpArgs false

/-! ### base -/
theorem wf_i64 {a : Int} (h : (Lit.int .i64 a).wf = true) : -9223372036854775808 ≤ a ∧ a ≤ 9223372036854775807 := by
  simpa [Lit.wf, IntKind.min, IntKind.max, IntKind.signed, IntKind.bits] using h
theorem wrap64_id {n : Int} (h1 : -9223372036854775808 ≤ n) (h2 : n ≤ 9223372036854775807) : wrap64 n = n := by
  unfold wrap64; omega
theorem toNat_ofInt64 (a : Int) : ((BitVec.ofInt 64 a).toNat : Int) = a % 18446744073709551616 := by
  rw [BitVec.toNat_ofInt]
  have h : (0 : Int) ≤ a % ((2 ^ 64 : Nat) : Int) := Int.emod_nonneg _ (by decide)
  rw [Int.toNat_of_nonneg h]; rfl
theorem wrap_i64_nat (n : Nat) (h : n < 9223372036854775808) : IntKind.i64.wrap (n : Int) = (n : Int) := by
  rw [IntKind.wrap_i64]; omega
theorem and_mask (a : Int) (j : Nat) (hj : j ≤ 63) : Go.bits .and .i64 a (2 ^ j - 1) = a % 2 ^ j := by
  have hp : 2 ^ j ≤ 2 ^ 63 := Nat.pow_le_pow_right (by decide) hj
  have hpos : 0 < 2 ^ j := Nat.two_pow_pos j
  have hc : ((2 : Int) ^ j - 1) = ((2 ^ j - 1 : Nat) : Int) := by
    rw [Int.natCast_sub hpos]; simp
  have hd : (2 : Int) ^ j ∣ 18446744073709551616 := ⟨2 ^ (64 - j), by rw [← Int.pow_add]; rw [show j + (64 - j) = 64 by omega]; rfl⟩
  show IntKind.i64.wrap (((BitVec.ofInt 64 a &&& BitVec.ofInt 64 (2 ^ j - 1)).toNat : Nat) : Int) = _
  rw [BitVec.toNat_and, hc, BitVec.ofInt_natCast, BitVec.toNat_ofNat, Nat.mod_eq_of_lt (Nat.lt_of_lt_of_le (Nat.sub_lt hpos (by decide)) (Nat.le_trans hp (by decide))), Nat.and_two_pow_sub_one_eq_mod]
  rw [wrap_i64_nat _ (Nat.lt_of_lt_of_le (Nat.mod_lt _ hpos) hp), Int.natCast_emod, toNat_ofInt64, Int.natCast_pow]
  exact Int.emod_emod_of_dvd a hd
theorem and_m (a : Int) (j : Nat) (m p : Int) (hj : j ≤ 63) (hp : (2 : Int) ^ j = p) (hm : m = p - 1) : Go.bits .and .i64 a m = a % p := by
  subst hm; rw [← hp]; exact and_mask a j hj

attribute [local go_sem] max2_int min2_int max_two min_two max_three min_three max_four min_four
set_option maxHeartbeats 1000000 in
theorem slacks_bad (late least v : Int) (A : Option Addr) (n c : Nat) (hb : Aside0 (late < 0 ∨ 1073741824 < late)) (w : World) :
    Calls Try.prog 3 #[.int .i64 late, .slice A n c, .int .i64 least] w fun e w' => e = .returned (.bool true) ∧ Below w.heap.size w w' := by
  go_enter Try.func3, Try.ntmps3
  go_wp2_with fail
  refine (new_no late hb.out _).mono ?_
  rintro e w2 ⟨rfl, rfl⟩
  go_wp2_with fail
  refine (rnew_no late hb.out _).mono ?_
  rintro e w2 ⟨rfl, rfl⟩
  go_wp2_with fail
  refine (line_no least late (by have := hb.out; omega) _).mono ?_
  rintro e w2 ⟨rfl, rfl⟩
  go_wp2_with fail
  refine (rline_no least late (by have := hb.out; omega) _).mono ?_
  rintro e w2 ⟨rfl, rfl⟩
  go_wp2_with fail
  refine (num_calls _ _).mono ?_
  rintro e w2 ⟨rfl, rfl⟩
  go_wp2_with fail
  refine (awake_calls _).mono ?_
  rintro e w2 ⟨rfl, hb2⟩
  have HB := Aside0.mk hb2
  clear hb2
  go_wp2_with fail
  go_ret
  exact ⟨rfl, HB.out⟩
theorem lines (least late : Int) (h0 : 0 ≤ late) (h1 : late ≤ 1073741824) : ∃ v : Int, (∀ w, Calls Try.prog 8 #[.int .i64 least, .int .i64 late] w fun e w' => e = .returned (.int .i64 v) ∧ w = w') ∧ (∀ w, Calls Try.prog 9 #[.int .i64 least, .int .i64 late] w fun e w' => e = .returned (.int .i64 v) ∧ w = w') := by
  by_cases c : -4398046511104 ≤ least ∧ least ≤ 4398046511104
  · exact ⟨max (least - late) (-4398046511104), fun w => line_yes least late _ c.1 c.2 h0 h1 ⟨rfl⟩ w, fun w => rline_yes least late _ c.1 c.2 h0 h1 ⟨rfl⟩ w⟩
  · exact ⟨-4398046511104, fun w => line_no least late (by omega) w, fun w => rline_no least late (by omega) w⟩
/-- What both slacks answer to a time, and what they are behind it. -/
theorem both (late : Int) (any : Bool) (high k t : Int) (hl0 : 0 ≤ late) (hl1 : late ≤ 1073741824) (hk0 : 0 ≤ k) (hk1 : k ≤ 1073741824) (hh0 : -1099511627776 ≤ high) (hh1 : high ≤ 1099511627776) :
    ∃ (a : Int) (any' : Bool) (high' k' : Int), 0 ≤ k' ∧ k' ≤ 1073741824 ∧ -1099511627776 ≤ high' ∧ high' ≤ 1099511627776 ∧
      (∀ (g : Nat) (w : World), w.heap[g]? = some (SB 43 late any high k) → Calls Try.prog 12 #[.pointer (some ⟨g, 0, none⟩), .int .i64 t] w fun e w' => e = .returned (.int .i64 a) ∧ Turned g (SB 43 late any' high' k') w w') ∧
      (∀ (g : Nat) (w : World), w.heap[g]? = some (SB 37 late any high k) → Calls Try.prog 13 #[.pointer (some ⟨g, 0, none⟩), .int .i64 t] w fun e w' => e = .returned (.int .i64 a) ∧ Turned g (SB 37 late any' high' k') w w') := by
  by_cases c : t < -1099511627776 ∨ 1099511627776 < t
  · exact ⟨1600, any, high, k, hk0, hk1, hh0, hh1, fun g w hg => (see_no g t c w).mono fun _ _ ⟨h1, h2⟩ => ⟨h1, h2 ▸ Turned.refl hg⟩, fun g w hg => (rsee_no g t c w).mono fun _ _ ⟨h1, h2⟩ => ⟨h1, h2 ▸ Turned.refl hg⟩⟩
  · cases any with
    | false => exact ⟨0, true, t, k, hk0, hk1, by omega, by omega, fun g w hg => (see_first g late high k t (by omega) (by omega) hl0 hl1 hk0 hk1 w ⟨hg⟩).mono fun _ _ h => h, fun g w hg => (rsee_first g late high k t (by omega) (by omega) hl0 hl1 hk0 hk1 w ⟨hg⟩).mono fun _ _ h => h⟩
    | true =>
      by_cases c2 : high < t
      · exact ⟨0, true, t, k, hk0, hk1, by omega, by omega, fun g w hg => (see_up g late high k t (by omega) (by omega) c2 hl0 hl1 hk0 hk1 w ⟨hg⟩).mono fun _ _ h => h, fun g w hg => (rsee_up g late high k t (by omega) (by omega) c2 hl0 hl1 hk0 hk1 w ⟨hg⟩).mono fun _ _ h => h⟩
      · exact ⟨0, true, high, max k (min (high - t) late), by omega, by omega, hh0, hh1, fun g w hg => (see_stay g late high k t (by omega) (by omega) (by omega) hh1 hl0 hl1 hk0 hk1 _ ⟨rfl⟩ w ⟨hg⟩).mono fun _ _ h => h, fun g w hg => (rsee_stay g late high k t (by omega) (by omega) (by omega) hh1 hl0 hl1 hk0 hk1 _ ⟨rfl⟩ w ⟨hg⟩).mono fun _ _ h => h⟩
set_option maxHeartbeats 1000000 in
theorem slacks_good (late least v : Int) (A : Option Addr) (c : Nat) (l : List Int) (h0 : 0 ≤ late) (h1 : late ≤ 1073741824) (w : World) (hl : Aside0 (ReadsInt w .i64 A l.length l)) (hm : l.length ≤ 9223372036854775807)
    (L1 : Aside0 (∀ w, Calls Try.prog 8 #[.int .i64 least, .int .i64 late] w fun e w' => e = .returned (.int .i64 v) ∧ w = w')) (L2 : Aside0 (∀ w, Calls Try.prog 9 #[.int .i64 least, .int .i64 late] w fun e w' => e = .returned (.int .i64 v) ∧ w = w')) :
    Calls Try.prog 3 #[.int .i64 late, .slice A l.length c, .int .i64 least] w fun e w' => e = .returned (.bool true) ∧ Below w.heap.size w w' := by
  go_enter Try.func3, Try.ntmps3
  go_wp2_with fail
  refine (new_yes late h0 h1 _).mono ?_
  rintro e w1 ⟨rfl, hw1⟩
  have hG : Aside0 (w1.heap.size = w.heap.size + 1) := ⟨by rw [← hw1]; simp⟩
  have hg : Aside0 (w1.heap[w.heap.size]? = some (SB 43 late false 0 0)) := ⟨by rw [← hw1]; show (w.heap.push _)[w.heap.size]? = _; simp⟩
  have HB : Aside0 (Below w.heap.size w w1) := ⟨by rw [← hw1]; exact below_alloc (Below.refl _ _) _⟩
  clear hw1
  go_wp2_with fail
  refine (rnew_yes late h0 h1 _).mono ?_
  rintro e w2 ⟨rfl, hw2⟩
  have hr : Aside0 (w2.heap[w1.heap.size]? = some (SB 37 late false 0 0)) := ⟨by rw [← hw2]; show (w1.heap.push _)[w1.heap.size]? = _; simp⟩
  replace hg : Aside0 (w2.heap[w.heap.size]? = some (SB 43 late false 0 0)) := ⟨by rw [← hw2]; exact ((below_alloc (Below.refl _ w1) _).block _ (by rw [hG.out]; omega)).trans hg.out⟩
  replace HB : Aside0 (Below w.heap.size w w2) := ⟨by rw [← hw2]; exact below_alloc HB.out _⟩
  clear hw2
  generalize w1.heap.size = G at *
  go_wp2_with fail
  refine (L1.out _).mono ?_
  rintro e w4 ⟨rfl, rfl⟩
  go_wp2_with fail
  refine (L2.out _).mono ?_
  rintro e w4 ⟨rfl, rfl⟩
  go_wp2_with (go_at_call 10; (with_reducible refine (num_calls _ _).mono ?_); rintro e w' ⟨rfl, rfl⟩)
  clear L1 L2
  go_loopw [11] (fun i wr => ∃ (j : Nat) (any : Bool) (high k : Int), j ≤ l.length ∧ i = .int .i64 j ∧ 0 ≤ k ∧ k ≤ 1073741824 ∧ -1099511627776 ≤ high ∧ high ≤ 1099511627776 ∧ Aside0 (wr.heap[w.heap.size]? = some (SB 43 late any high k)) ∧ Aside0 (wr.heap[G]? = some (SB 37 late any high k)) ∧ Aside0 (Below w.heap.size w wr)) (fun i _ => l.length - (intOf i).toNat)
  case atStart => exact ⟨0, false, 0, 0, Nat.zero_le _, rfl, by omega, by omega, by omega, by omega, hg, hr, HB⟩
  case round =>
    clear hg hr HB
    obtain ⟨j, any, high, k, hj, rfl, b1, b2, b3, b4, hg, hr, HB⟩ := hrel
    by_cases hlt : j < l.length
    · by_cases h60 : j < 60
      · obtain ⟨ad, had, hcell⟩ := hl.out.2.2 (by omega)
        have hcell0 := Aside0.mk (hcell j hlt)
        replace hcell := pw_cell_below HB.out hcell0.out
        have hrd : Aside0 (Value.int .i64 (l.getD j 0) = .int .i64 (l.getD j 0)) := ⟨rfl⟩
        generalize l.getD j 0 = t at *
        obtain ⟨a, any', high', k', q1, q2, q3, q4, C1, C2⟩ := both late any high k t h0 h1 b1 b2 b3 b4
        replace C1 := Aside0.mk C1
        replace C2 := Aside0.mk C2
        subst had
        clear hrd
        go_wp2_with fail
        refine (C1.out _ _ hg.out).mono ?_
        rintro e w3 ⟨rfl, HT⟩
        replace hg := Aside0.mk HT.at_
        replace hr := Aside0.mk ((HT.far G (by have := hG.out; omega)).trans hr.out)
        replace HB := Aside0.mk (HB.out.trans (HT.below (Nat.le_refl _)))
        replace hcell := pw_cell_below HB.out hcell0.out
        clear HT C1
        go_wp2_with fail
        have tok : True := trivial
        go_region_with (first
          | (go_at_call 10; (with_reducible refine (num_calls _ _).mono ?_); rintro e w' ⟨rfl, rfl⟩)
          | (go_at_call 13; (with_reducible refine (C2.out G _ ?cx).mono ?_); (case cx => exact hr.out); rintro e w4 ⟨rfl, HT⟩; have hg2 := Aside0.mk ((HT.far w.heap.size (by have := hG.out; omega)).trans hg.out); have hr2 := Aside0.mk HT.at_; have HB2 := Aside0.mk (HB.out.trans (Below.trans (below_drew (Below.refl _ _)) (HT.below (by have := hG.out; omega)))); have c3 : w4.cell? ⟨G, 3, none⟩ = some (.int .i64 k') := blk_cell hr2.out 3; clear HT)
          | (go_at_call 14; (with_reducible refine (k_calls w.heap.size late any' high' k' _ ?cy).mono ?_); (case cy => exact hg2.out); rintro e w' ⟨rfl, rfl⟩))
        all_goals
          go_wp2_with fail
          go_roundw
          case rel => exact ⟨j + 1, any', high', k', by omega, by go_num, q1, q2, q3, q4, ⟨hg2.out⟩, ⟨hr2.out⟩, HB2⟩
          case measure => simp [intOf]; omega
      · go_wp2_with fail
        refine (awake_calls _).mono ?_
        rintro e w5 ⟨rfl, hb5⟩
        have HB5 := Aside0.mk (below_step HB.out hb5)
        clear hb5
        go_wp2_with fail
        go_ret
        exact ⟨rfl, HB5.out⟩
    · go_wp2_with fail
      refine (awake_calls _).mono ?_
      rintro e w5 ⟨rfl, hb5⟩
      have HB5 := Aside0.mk (below_step HB.out hb5)
      clear hb5
      go_wp2_with fail
      go_ret
      exact ⟨rfl, HB5.out⟩
theorem slacks_walk (late : Int) (a : Option Addr) (len cap : Nat) (z : List Int) (least : Int) (w : World) (h0 : (Lit.int .i64 late).wf = true)
    (hr : (a = none ∧ len = 0 ∧ cap = 0 ∧ z = []) ∨ ∃ x, a = some x ∧ len ≤ cap ∧ cap ≤ maxLen ∧ z.length = cap ∧ (∀ i, i < z.length → w.cell? (x.add i) = some (.int .i64 (z.getD i 0))) ∧ ∀ n ∈ z, (Lit.int .i64 n).wf = true)
    (hy : len * 8 ≤ 140737488351232) (h2 : (Lit.int .i64 least).wf = true) :
    Calls Try.prog 3 #[.int .i64 late, .slice a len cap, .int .i64 least] w fun e w' => e = .returned (.bool true) ∧ Below w.heap.size w w' := by
  obtain ⟨l, rfl, hl, hm, hw, hc⟩ := ReadsInt.ofRowC hr
  by_cases c : late < 0 ∨ 1073741824 < late
  · exact slacks_bad late least 0 a l.length cap ⟨c⟩ w
  · obtain ⟨v, L1, L2⟩ := lines least late (by omega) (by omega)
    exact slacks_good late least v a cap l (by omega) (by omega) w ⟨hl⟩ (by omega) ⟨L1⟩ ⟨L2⟩

end Go.Proofs.Ytklegkmaiaegpaa.SlacksW
