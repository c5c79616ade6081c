-- Written by a program of this session (wip/myprint.py), over the words of the print
import Derived.Test.YtcbckolcmfbjhaaQAdmitsx0
import Derived.Test.YtcbckolcmfbjhaaQAdmitsx2
import Derived.Shelf.Abstract
namespace Go.Proofs.Ytcbckolcmfbjhaa.QAdmits
open Go.RowKit Go.Proofs.YtcbckolcmfbjhaaW.PrintWords Go.Proofs.YtcbckolcmfbjhaaW.PrintLast Go.Proofs.YtcbckolcmfbjhaaW.PrintMore
attribute [local go_sem] max2_int min2_int max_two min_two max_three min_three max_four min_four   -- for this text's walks alone
set_option linter.unusedVariables false
set_option linter.unusedSimpArgs false

/-! ### window_sliding: function 30 -/
def window_sliding.f (k : Nat) (s0_0 : Int) (s0_1 : Int) (s0_2 : Int) (s0_3 : Int) (s0_4 : List Int) (s0_5 : Int) : Option (Bool × Int × Int × Int × Int × Int) := if s0_3 < 1 then (some (false, s0_0, s0_1, s0_2, s0_3, s0_5)) else (if s0_3 > s0_2 then (some (false, s0_0, s0_1, s0_2, s0_3, s0_5)) else (if s0_3 = 0 then (none) else (if (wrap64 (Int.tdiv (wrap64 (s0_2 - 1)) s0_3)) ≥ 64 then (some (false, s0_0, s0_1, s0_2, s0_3, s0_5)) else ((floor_Gcd.f k s0_2 s0_3).bind fun bt117 => (if bt117.1 = 0 then (none) else (some (decide ((wrap64 (Int.tdiv s0_2 bt117.1)) ≤ 256), s0_0, s0_1, s0_2, s0_3, s0_5)))))))
theorem window_sliding.mono : ∀ a0 a1 a2 a3 a4 a5 k, LeO (window_sliding.f k a0 a1 a2 a3 a4 a5) (window_sliding.f (k + 1) a0 a1 a2 a3 a4 a5) := by
 intro a0 a1 a2 a3 a4 a5 k
 unfold window_sliding.f
 repeat' first
    | (with_reducible exact floor_Gcd.mono _ _ _)
    | (with_reducible exact LeO.refl _)
    | (with_reducible exact LeO.none _)
    | (with_reducible refine LeO.ite ?_ ?_)
    | (with_reducible refine LeO.bind ?_ (fun _ => ?_))
    | exact floor_Gcd.mono _ _ _
    | exact LeO.none _
    | refine LeO.ite ?_ ?_
    | refine LeO.bind ?_ (fun _ => ?_)
set_option maxHeartbeats 8000000 in
set_option maxRecDepth 100000 in
theorem window_sliding.calls (k : Nat) (g : Nat) (s0_0 : Int) (s0_1 : Int) (s0_2 : Int) (s0_3 : Int) (s0_4 : List Int) (s0_5 : Int) (r1 : Bool) (r2 : Int) (r3 : Int) (r4 : Int) (r5 : Int) (r6 : Int) (w0 w : World) (hI : IsS42 w0 w g s0_0 s0_1 s0_2 s0_3 s0_4 s0_5) (hB : Below w0.heap.size w0 w) (h : window_sliding.f k s0_0 s0_1 s0_2 s0_3 s0_4 s0_5 = some (r1, r2, r3, r4, r5, r6)) :
  Calls Try.prog 30 #[.pointer (some ⟨g, 0, none⟩)] w fun e w' => e = .returned (.bool r1) ∧ IsS42 w0 w' g r2 r3 r4 r5 s0_4 r6 ∧ Below w0.heap.size w0 w' ∧ KeepBut w w' g none := by
 have HI0 := Aside0.mk hI
 have HK := Aside0.mk (KeepBut.refl w g none)
 have HL := Aside0.mk hB.size
 clear hI
 have HW0 := Aside0.mk hB.size
 have HB := Aside0.mk hB
 clear hB
 have H : (if s0_3 < 1 then (some (false, s0_0, s0_1, s0_2, s0_3, s0_5)) else (if s0_3 > s0_2 then (some (false, s0_0, s0_1, s0_2, s0_3, s0_5)) else (if s0_3 = 0 then (none) else (if (wrap64 (Int.tdiv (wrap64 (s0_2 - 1)) s0_3)) ≥ 64 then (some (false, s0_0, s0_1, s0_2, s0_3, s0_5)) else ((floor_Gcd.f k s0_2 s0_3).bind fun bt117 => (if bt117.1 = 0 then (none) else (some (decide ((wrap64 (Int.tdiv s0_2 bt117.1)) ≤ 256), s0_0, s0_1, s0_2, s0_3, s0_5)))))))) = some (r1, r2, r3, r4, r5, r6) := h
 clear h
 by_cases c2 : s0_3 < 1
 ·rw [if_pos c2] at H
  have c2b0 : decide (s0_3 < 1) = true := decide_eq_true c2
  clear c2
  simp only [Option.some.injEq, Prod.mk.injEq] at H
  obtain ⟨rfl, rfl, rfl, rfl, rfl, rfl⟩ := H
  obtain ⟨ASz3_4, cSz3_4, HGz3, hgz3, HSz3_4⟩ := HI0.out
  have hcz3_0 := cellS42_0 HGz3
  have hcz3_1 := cellS42_1 HGz3
  have hcz3_2 := cellS42_2 HGz3
  have hcz3_3 := cellS42_3 HGz3
  have hcz3_4 := cellS42_4 HGz3
  have hcz3_5 := cellS42_5 HGz3
  have hfz3_0 := blk_frozen HGz3 0
  have hfz3_1 := blk_frozen HGz3 1
  have hfz3_2 := blk_frozen HGz3 2
  have hfz3_3 := blk_frozen HGz3 3
  have hfz3_5 := blk_frozen HGz3 5
  clear HGz3 hgz3
  go_enter Try.func30, Try.ntmps30
  go_wp2
  repeat (go_quiet (fail); try go_wp2)
  go_ret
  exact ⟨by first | rfl | (simp [errW_none, errW_some] <;> rfl) | (simp [*, errW_none, errW_some] <;> rfl), by repeat (first | (with_reducible first | exact HI0.out | apply IsS42.alloc | apply IsS42.drewN | apply IsS42.drew | apply IsS42.set_0 | apply IsS42.set_1 | apply IsS42.set_2 | apply IsS42.set_3 | apply IsS42.set_5) | exact HI0.out), by repeat (first | (with_reducible first | exact HB.out | apply below_alloc | apply pw_below_drewN | apply below_drew1 | refine below_set ?_ (IsS42.ge HI0.out)) | exact HB.out), by repeat (first | (with_reducible first | exact HK.out | apply KeepBut.set_ | apply keep_drewN | apply keep_drew | apply keep_alloc) | exact HK.out)⟩
 ·rw [if_neg c2] at H
  have c2b0 : decide (s0_3 < 1) = false := decide_eq_false c2
  clear c2
  by_cases c4 : s0_3 > s0_2
  ·rw [if_pos c4] at H
   have c4b0 : decide (s0_2 < s0_3) = true := decide_eq_true c4
   clear c4
   simp only [Option.some.injEq, Prod.mk.injEq] at H
   obtain ⟨rfl, rfl, rfl, rfl, rfl, rfl⟩ := H
   obtain ⟨ASz5_4, cSz5_4, HGz5, hgz5, HSz5_4⟩ := HI0.out
   have hcz5_0 := cellS42_0 HGz5
   have hcz5_1 := cellS42_1 HGz5
   have hcz5_2 := cellS42_2 HGz5
   have hcz5_3 := cellS42_3 HGz5
   have hcz5_4 := cellS42_4 HGz5
   have hcz5_5 := cellS42_5 HGz5
   have hfz5_0 := blk_frozen HGz5 0
   have hfz5_1 := blk_frozen HGz5 1
   have hfz5_2 := blk_frozen HGz5 2
   have hfz5_3 := blk_frozen HGz5 3
   have hfz5_5 := blk_frozen HGz5 5
   clear HGz5 hgz5
   go_enter Try.func30, Try.ntmps30
   go_wp2
   repeat (go_quiet (fail); try go_wp2)
   go_ret
   exact ⟨by first | rfl | (simp [errW_none, errW_some] <;> rfl) | (simp [*, errW_none, errW_some] <;> rfl), by repeat (first | (with_reducible first | exact HI0.out | apply IsS42.alloc | apply IsS42.drewN | apply IsS42.drew | apply IsS42.set_0 | apply IsS42.set_1 | apply IsS42.set_2 | apply IsS42.set_3 | apply IsS42.set_5) | exact HI0.out), by repeat (first | (with_reducible first | exact HB.out | apply below_alloc | apply pw_below_drewN | apply below_drew1 | refine below_set ?_ (IsS42.ge HI0.out)) | exact HB.out), by repeat (first | (with_reducible first | exact HK.out | apply KeepBut.set_ | apply keep_drewN | apply keep_drew | apply keep_alloc) | exact HK.out)⟩
  ·rw [if_neg c4] at H
   have c4b0 : decide (s0_2 < s0_3) = false := decide_eq_false c4
   clear c4
   by_cases c6 : s0_3 = 0
   ·rw [if_pos c6] at H
    exact absurd H (by simp)
   ·rw [if_neg c6] at H
    have c6b0 : (s0_3 == 0) = false := beq_eq_false_iff_ne.mpr c6
    have c6b1 : (s0_3 != 0) = true := bne_iff_ne.mpr c6
    by_cases c7 : (wrap64 (Int.tdiv (wrap64 (s0_2 - 1)) s0_3)) ≥ 64
    ·rw [if_pos c7] at H
     have c7b0 : decide (64 ≤ (wrap64 (Int.tdiv (wrap64 (s0_2 - 1)) s0_3))) = true := decide_eq_true c7
     clear c7
     simp only [Option.some.injEq, Prod.mk.injEq] at H
     obtain ⟨rfl, rfl, rfl, rfl, rfl, rfl⟩ := H
     obtain ⟨ASz8_4, cSz8_4, HGz8, hgz8, HSz8_4⟩ := HI0.out
     have hcz8_0 := cellS42_0 HGz8
     have hcz8_1 := cellS42_1 HGz8
     have hcz8_2 := cellS42_2 HGz8
     have hcz8_3 := cellS42_3 HGz8
     have hcz8_4 := cellS42_4 HGz8
     have hcz8_5 := cellS42_5 HGz8
     have hfz8_0 := blk_frozen HGz8 0
     have hfz8_1 := blk_frozen HGz8 1
     have hfz8_2 := blk_frozen HGz8 2
     have hfz8_3 := blk_frozen HGz8 3
     have hfz8_5 := blk_frozen HGz8 5
     clear HGz8 hgz8
     go_enter Try.func30, Try.ntmps30
     go_wp2
     repeat (go_quiet (fail); try go_wp2)
     go_ret
     exact ⟨by first | rfl | (simp [errW_none, errW_some] <;> rfl) | (simp [*, errW_none, errW_some] <;> rfl), by repeat (first | (with_reducible first | exact HI0.out | apply IsS42.alloc | apply IsS42.drewN | apply IsS42.drew | apply IsS42.set_0 | apply IsS42.set_1 | apply IsS42.set_2 | apply IsS42.set_3 | apply IsS42.set_5) | exact HI0.out), by repeat (first | (with_reducible first | exact HB.out | apply below_alloc | apply pw_below_drewN | apply below_drew1 | refine below_set ?_ (IsS42.ge HI0.out)) | exact HB.out), by repeat (first | (with_reducible first | exact HK.out | apply KeepBut.set_ | apply keep_drewN | apply keep_drew | apply keep_alloc) | exact HK.out)⟩
    ·rw [if_neg c7] at H
     have c7b0 : decide (64 ≤ (wrap64 (Int.tdiv (wrap64 (s0_2 - 1)) s0_3))) = false := decide_eq_false c7
     clear c7
     replace H := Option.bind_eq_some_iff.mp H
     obtain ⟨⟨t117, t118⟩, A90, H⟩ := H
     replace H : (if t117 = 0 then (none) else (some (decide ((wrap64 (Int.tdiv s0_2 t117)) ≤ 256), s0_0, s0_1, s0_2, s0_3, s0_5))) = some (r1, r2, r3, r4, r5, r6) := H
     have A9 := Aside0.mk A90
     clear A90
     by_cases c10 : t117 = 0
     ·rw [if_pos c10] at H
      exact absurd H (by simp)
     ·rw [if_neg c10] at H
      have c10b0 : (t117 == 0) = false := beq_eq_false_iff_ne.mpr c10
      have c10b1 : (t117 != 0) = true := bne_iff_ne.mpr c10
      simp only [Option.some.injEq, Prod.mk.injEq] at H
      obtain ⟨rfl, rfl, rfl, rfl, rfl, rfl⟩ := H
      obtain ⟨ASz11_4, cSz11_4, HGz11, hgz11, HSz11_4⟩ := HI0.out
      have hcz11_0 := cellS42_0 HGz11
      have hcz11_1 := cellS42_1 HGz11
      have hcz11_2 := cellS42_2 HGz11
      have hcz11_3 := cellS42_3 HGz11
      have hcz11_4 := cellS42_4 HGz11
      have hcz11_5 := cellS42_5 HGz11
      have hfz11_0 := blk_frozen HGz11 0
      have hfz11_1 := blk_frozen HGz11 1
      have hfz11_2 := blk_frozen HGz11 2
      have hfz11_3 := blk_frozen HGz11 3
      have hfz11_5 := blk_frozen HGz11 5
      clear HGz11 hgz11
      go_enter Try.func30, Try.ntmps30
      go_wp2_with (first | (go_at_call 35; (with_reducible refine (floor_Gcd.calls k s0_2 s0_3 t117 t118 _ A9.out).mono ?_); rintro e w' ⟨rfl, ⟨nd, rfl⟩⟩; (try first | exact ⟨rfl, _, World.drewN_drewN _ _ _⟩ | exact ⟨rfl, _, Eq.trans (World.drewN_drewN _ _ _) (congrArg (World.drewN _) (Nat.add_assoc _ _ _))⟩)))
      repeat (go_quiet (first | (go_at_call 35; (with_reducible refine (floor_Gcd.calls k s0_2 s0_3 t117 t118 _ A9.out).mono ?_); rintro e w' ⟨rfl, ⟨nd, rfl⟩⟩; (try first | exact ⟨rfl, _, World.drewN_drewN _ _ _⟩ | exact ⟨rfl, _, Eq.trans (World.drewN_drewN _ _ _) (congrArg (World.drewN _) (Nat.add_assoc _ _ _))⟩))); try go_wp2_with (first | (go_at_call 35; (with_reducible refine (floor_Gcd.calls k s0_2 s0_3 t117 t118 _ A9.out).mono ?_); rintro e w' ⟨rfl, ⟨nd, rfl⟩⟩; (try first | exact ⟨rfl, _, World.drewN_drewN _ _ _⟩ | exact ⟨rfl, _, Eq.trans (World.drewN_drewN _ _ _) (congrArg (World.drewN _) (Nat.add_assoc _ _ _))⟩))))
      go_ret
      exact ⟨by first | rfl | (simp [errW_none, errW_some] <;> rfl) | (simp [*, errW_none, errW_some] <;> rfl), by repeat (first | (with_reducible first | exact HI0.out | apply IsS42.alloc | apply IsS42.drewN | apply IsS42.drew | apply IsS42.set_0 | apply IsS42.set_1 | apply IsS42.set_2 | apply IsS42.set_3 | apply IsS42.set_5) | exact HI0.out), by repeat (first | (with_reducible first | exact HB.out | apply below_alloc | apply pw_below_drewN | apply below_drew1 | refine below_set ?_ (IsS42.ge HI0.out)) | exact HB.out), by repeat (first | (with_reducible first | exact HK.out | apply KeepBut.set_ | apply keep_drewN | apply keep_drew | apply keep_alloc) | exact HK.out)⟩

/-! ### window_May: function 21, by a walk of its own -/
theorem w64_id {n : Int} (h1 : -9223372036854775808 ≤ n) (h2 : n ≤ 9223372036854775807) : wrap64 n = n := by unfold wrap64; omega
/-- May a bound be, at its place? -/
def gAt (bs : List Int) (i : Nat) : Bool := decide (-1099511627776 ≤ bs.getD i 0 ∧ bs.getD i 0 ≤ 1099511627776 ∧ (0 < i → bs.getD (i - 1) 0 < bs.getD i 0))
/-- May all be from a place on, so many? -/
def gFrom (bs : List Int) : Nat → Nat → Bool
  | 0, _ => true
  | d + 1, i => gAt bs i && gFrom bs d (i + 1)
theorem gFrom_zero (bs : List Int) (i : Nat) : gFrom bs 0 i = true := rfl
theorem gFrom_succ (bs : List Int) (d i : Nat) : gFrom bs (d + 1) i = (gAt bs i && gFrom bs d (i + 1)) := rfl
/-- May bounds be? -/
def bMay (bs : List Int) : Bool := decide (bs.length ≤ 8) && gFrom bs bs.length 0
def aMay (agg : Int) (bs : List Int) (rank : Int) : Bool := decide (0 ≤ agg ∧ agg ≤ 7 ∧ (agg = 7 ∨ rank = 0) ∧ 0 ≤ rank ∧ rank ≤ 1000 ∧ (6 ≤ agg ↔ 0 < bs.length)) && bMay bs
def sMay (size slide : Int) : Bool := decide (1 ≤ slide ∧ slide ≤ size ∧ (size - 1) / slide < 64 ∧ size / ((Nat.gcd size.toNat slide.toNat : Nat) : Int) ≤ 256)
/-- May a query be? -/
def qMay (kind agg size slide : Int) (bs : List Int) (rank : Int) : Bool :=
 decide (1 ≤ size ∧ size ≤ 1073741824) && (aMay agg bs rank && (if kind = 1 then sMay size slide else decide ((kind = 0 ∨ kind = 2) ∧ slide = 0)))
theorem within_eq (a : Int) : acc_within.f a 1099511627776 = some (decide (-1099511627776 ≤ a ∧ a ≤ 1099511627776)) := by
 unfold acc_within.f
 rw [w64_id (by omega) (by omega)]
 by_cases c : a ≥ -1099511627776
 ·rw [if_pos c]; congr 1; exact decide_eq_decide.2 (by omega)
 ·rw [if_neg c]; congr 1; symm; exact decide_eq_false (by omega)
theorem bounds_l0 (bs : List Int) (hn : bs.length ≤ 8) (d : Nat) : ∀ (k i : Nat), i + d = bs.length → d < k → acc_BoundsMay.l0 k bs bs (bs.length : Int) (i : Int) = some (gFrom bs d i) := by
 induction d with
  | zero =>
  intro k i hi hk
  obtain ⟨k, rfl⟩ : ∃ m, k = m + 1 := ⟨k - 1, by omega⟩
  simp only [acc_BoundsMay.l0]
  rw [if_neg (by omega)]
  rfl
  | succ d ih =>
  intro k i hi hk
  obtain ⟨k, rfl⟩ : ∃ m, k = m + 1 := ⟨k - 1, by omega⟩
  simp only [acc_BoundsMay.l0]
  rw [if_pos (by omega), if_pos (by omega), if_pos (by omega), within_eq, Option.bind_some]
  have e : rd bs (i : Int) = bs.getD i 0 := by unfold rd; rw [Int.toNat_natCast]
  have ih := ih k (i + 1) (by omega) (by omega)
  have w1 : wrap64 ((i : Int) + 1) = ((i + 1 : Nat) : Int) := by rw [w64_id (by omega) (by omega)]; omega
  rw [e]
  show _ = some (gAt bs i && gFrom bs d (i + 1))
  unfold gAt
  by_cases c : -1099511627776 ≤ bs.getD i 0 ∧ bs.getD i 0 ≤ 1099511627776
  ·rw [if_pos (decide_eq_true c)]
   by_cases c0 : 0 < i
   ·have w2 : wrap64 ((i : Int) - 1) = ((i - 1 : Nat) : Int) := by rw [w64_id (by omega) (by omega)]; omega
    have e2 : rd bs ((i - 1 : Nat) : Int) = bs.getD (i - 1) 0 := by unfold rd; rw [Int.toNat_natCast]
    rw [if_pos (by omega), w2, if_pos (by omega), if_pos (by omega), e2]
    by_cases c1 : bs.getD (i - 1) 0 ≥ bs.getD i 0
    ·rw [if_pos c1, decide_eq_false (fun h => by have := h.2.2 c0; omega), Bool.false_and]
    ·rw [if_neg c1, w1, ih, decide_eq_true ⟨c.1, c.2, fun _ => by omega⟩, Bool.true_and]
   ·rw [if_neg (by omega), w1, ih, decide_eq_true ⟨c.1, c.2, fun h => absurd h c0⟩, Bool.true_and]
  ·rw [decide_eq_false c, if_neg (by decide), decide_eq_false (fun h => c ⟨h.1, h.2.1⟩), Bool.false_and]
theorem bounds_eq (bs : List Int) (k : Nat) (hk : 9 ≤ k) : acc_BoundsMay.f k bs = some (bMay bs) := by
 unfold acc_BoundsMay.f bMay
 by_cases c : (bs.length : Int) > 8
 ·rw [if_pos c, decide_eq_false (by omega), Bool.false_and]
 ·have h := bounds_l0 bs (by omega) bs.length k 0 (by omega) (by omega)
  rw [if_neg c, decide_eq_true (by omega), Bool.true_and]
  exact h
theorem asks_eq (a0 a1 a2 a3 : Int) (bs : List Int) (a5 : Int) (k : Nat) (hk : 9 ≤ k) : window_asks.f k a0 a1 a2 a3 bs a5 = some (aMay a1 bs a5, a0, a1, a2, a3, a5) := by
 unfold window_asks.f aMay
 by_cases c : a1 < 0 ∨ 7 < a1 ∨ (a1 ≠ 7 ∧ a5 ≠ 0) ∨ a5 < 0 ∨ 1000 < a5
 ·rw [if_pos c, decide_eq_false (by omega), Bool.false_and]
 ·rw [if_neg c]
  by_cases d : 6 ≤ a1 ↔ 0 < bs.length
  ·rw [if_pos d, bounds_eq bs k hk, Option.bind_some, decide_eq_true ⟨by omega, by omega, by omega, by omega, by omega, d⟩, Bool.true_and]
  ·rw [if_neg d, decide_eq_false (fun h => d h.2.2.2.2.2), Bool.false_and]
theorem w_gcd_l0 (n : Nat) : ∀ (a b : Nat), b ≤ n → ∀ k, n < k → floor_Gcd.l0 k (a : Int) (b : Int) = some (((Nat.gcd a b : Nat) : Int), 0) := by
 induction n with
  | zero =>
  intro a b hb k hk
  obtain ⟨k, rfl⟩ : ∃ m, k = m + 1 := ⟨k - 1, by omega⟩
  obtain rfl : b = 0 := by omega
  simp only [floor_Gcd.l0]; rw [if_neg (by omega), Nat.gcd_zero_right]
  | succ n ih =>
  intro a b hb k hk
  obtain ⟨k, rfl⟩ : ∃ m, k = m + 1 := ⟨k - 1, by omega⟩
  by_cases h : b = 0
  ·subst h
   simp only [floor_Gcd.l0]; rw [if_neg (by omega), Nat.gcd_zero_right]
  ·simp only [floor_Gcd.l0]; rw [if_pos (by omega), if_neg (by omega), ← Int.ofNat_tmod]
   have hlt := Nat.mod_lt a (show b > 0 by omega)
   rw [ih b (a % b) (by omega) k (by omega)]
   congr 3
   rw [Nat.gcd_comm b (a % b), ← Nat.gcd_rec, Nat.gcd_comm]
theorem w_gcd_eq {a b : Int} (ha : 1 ≤ a) (hb : 1 ≤ b) (k : Nat) (hk : b.toNat + 2 ≤ k) : floor_Gcd.f k a b = some (((Nat.gcd a.toNat b.toNat : Nat) : Int), 0) := by
 unfold floor_Gcd.f
 obtain ⟨k, rfl⟩ : ∃ m, k = m + 1 := ⟨k - 1, by omega⟩
 rw [if_neg (by omega), decide_eq_false (by omega)]
 simp only [floor_Gcd.j0]
 have h := w_gcd_l0 b.toNat a.toNat b.toNat (Nat.le_refl _) k (by omega)
 rw [Int.toNat_of_nonneg (by omega), Int.toNat_of_nonneg (by omega)] at h
 simpa using h
theorem gcd_pos {a b : Int} (ha : 1 ≤ a) : 1 ≤ ((Nat.gcd a.toNat b.toNat : Nat) : Int) := by
 have := Nat.gcd_pos_of_pos_left b.toNat (show 0 < a.toNat by omega)
 omega
theorem sliding_eq (a0 a1 a2 a3 : Int) (bs : List Int) (a5 : Int) (h1 : 1 ≤ a2) (h2 : a2 ≤ 1073741824) (k : Nat) (hk : 1073741830 ≤ k) : window_sliding.f k a0 a1 a2 a3 bs a5 = some (sMay a2 a3, a0, a1, a2, a3, a5) := by
 unfold window_sliding.f sMay
 by_cases c1 : a3 < 1
 ·rw [if_pos c1, decide_eq_false (by omega)]
 ·by_cases c2 : a3 > a2
  ·rw [if_neg c1, if_pos c2, decide_eq_false (by omega)]
  ·have hd := Int.ediv_nonneg (show 0 ≤ a2 - 1 by omega) (show 0 ≤ a3 by omega)
   have hd2 := Int.ediv_le_self a3 (show 0 ≤ a2 - 1 by omega)
   have e1 : wrap64 (Int.tdiv (wrap64 (a2 - 1)) a3) = (a2 - 1) / a3 := by
    rw [w64_id (n := a2 - 1) (by omega) (by omega), Int.tdiv_eq_ediv_of_nonneg (by omega), w64_id (by omega) (by omega)]
   rw [if_neg c1, if_neg c2, if_neg (by omega), e1]
   by_cases c3 : (a2 - 1) / a3 ≥ 64
   ·rw [if_pos c3, decide_eq_false (by omega)]
   ·rw [if_neg c3, w_gcd_eq h1 (by omega) k (by omega), Option.bind_some]
    have hg := gcd_pos (b := a3) h1
    generalize ((Nat.gcd a2.toNat a3.toNat : Nat) : Int) = g at *
    have hd3 := Int.ediv_nonneg (show 0 ≤ a2 by omega) (show 0 ≤ g by omega)
    have hd4 := Int.ediv_le_self g (show 0 ≤ a2 by omega)
    have e2 : wrap64 (Int.tdiv a2 g) = a2 / g := by rw [Int.tdiv_eq_ediv_of_nonneg (by omega), w64_id (by omega) (by omega)]
    dsimp only
    rw [if_neg (by omega), e2]
    congr 2
    exact decide_eq_decide.2 (by omega)
def window_May.f (a0_0 : Int) (a0_1 : Int) (a0_2 : Int) (a0_3 : Int) (l0_4 : List Int) (a0_5 : Int) : Option (Bool) := some (qMay a0_0 a0_1 a0_2 a0_3 l0_4 a0_5)
attribute [irreducible] gAt gFrom bMay aMay sMay
set_option maxHeartbeats 8000000 in
set_option maxRecDepth 100000 in
theorem window_May.calls (a0_0 : Int) (a0_1 : Int) (a0_2 : Int) (a0_3 : Int) (A0_4 : Option Addr) (c0_4 : Nat) (l0_4 : List Int) (a0_5 : Int) (r : Bool) (w : World) (hr0_4 : Kd.C (Kd.int .i64) w A0_4 l0_4.length l0_4) (hc0_4 : l0_4.length ≤ c0_4) (h : window_May.f a0_0 a0_1 a0_2 a0_3 l0_4 a0_5 = some r) :
  Calls Try.prog 21 #[.agg #[.int .i64 a0_0, .int .i64 a0_1, .int .i64 a0_2, .int .i64 a0_3, .slice A0_4 l0_4.length c0_4, .int .i64 a0_5]] w fun e w' => e = .returned (.bool r) ∧ Below w.heap.size w w' := by
 obtain rfl := Option.some.inj h
 clear h
 have HW : Aside0 (IsS42 w (w.alloc (.cells #[.int .i64 a0_0, .int .i64 a0_1, .int .i64 a0_2, .int .i64 a0_3, .slice A0_4 l0_4.length c0_4, .int .i64 a0_5] 42 (0, 0))) w.heap.size a0_0 a0_1 a0_2 a0_3 l0_4 a0_5) :=
  ⟨⟨A0_4, c0_4, by show (w.heap.push _)[w.heap.size]? = _; simp, Nat.le_refl _, hr0_4⟩⟩
 have HB : Aside0 (Below w.heap.size w (w.alloc (.cells #[.int .i64 a0_0, .int .i64 a0_1, .int .i64 a0_2, .int .i64 a0_3, .slice A0_4 l0_4.length c0_4, .int .i64 a0_5] 42 (0, 0)))) := ⟨below_alloc (Below.refl _ _) _⟩
 have A1 := Aside0.mk (asks_eq a0_0 a0_1 a0_2 a0_3 l0_4 a0_5 1073741830 (by omega))
 clear hr0_4 hc0_4
 unfold qMay
 by_cases c1 : a0_2 < 1
 ·rw [decide_eq_false (show ¬ (1 ≤ a0_2 ∧ a0_2 ≤ 1073741824) by omega), Bool.false_and]
  go_enter Try.func21, Try.ntmps21
  go_wp2_with fail
  go_ret
  exact ⟨rfl, HB.out⟩
 ·by_cases c2 : 1073741824 < a0_2
  ·rw [decide_eq_false (show ¬ (1 ≤ a0_2 ∧ a0_2 ≤ 1073741824) by omega), Bool.false_and]
   go_enter Try.func21, Try.ntmps21
   go_wp2_with fail
   go_ret
   exact ⟨rfl, HB.out⟩
  ·rw [decide_eq_true (show 1 ≤ a0_2 ∧ a0_2 ≤ 1073741824 by omega), Bool.true_and]
   have A2 := Aside0.mk (sliding_eq a0_0 a0_1 a0_2 a0_3 l0_4 a0_5 (by omega) (by omega) 1073741830 (by omega))
   generalize sMay a0_2 a0_3 = sv at *
   generalize aMay a0_1 l0_4 a0_5 = av at *
   generalize 1073741830 = K at *
   cases av with
    | false =>
    rw [Bool.false_and]
    go_enter Try.func21, Try.ntmps21
    go_wp2_with fail
    refine (window_asks.calls K _ _ _ _ _ _ _ _ _ _ _ _ _ w _ HW.out HB.out A1.out).mono ?_
    rintro e w1 ⟨rfl, HW1, HB1, _⟩
    have HB2 := Aside0.mk HB1
    clear HW1 HB1
    go_wp2_with fail
    go_ret
    exact ⟨rfl, HB2.out⟩
    | true =>
    rw [Bool.true_and]
    by_cases k1 : a0_0 = 1
    ·subst k1
     rw [if_pos rfl]
     go_enter Try.func21, Try.ntmps21
     go_wp2_with fail
     refine (window_asks.calls K _ _ _ _ _ _ _ _ _ _ _ _ _ w _ HW.out HB.out A1.out).mono ?_
     rintro e w1 ⟨rfl, HW1, HB1, _⟩
     have HB2 := Aside0.mk HB1
     have HW2 := Aside0.mk HW1
     obtain ⟨A4, c4, hb, _, _⟩ := HW1
     have q0 := blk_cell hb 0
     clear HB1 hb
     simp at q0
     go_wp2_with fail
     refine (window_sliding.calls K _ _ _ _ _ _ _ _ _ _ _ _ _ w _ HW2.out HB2.out A2.out).mono ?_
     rintro e w3 ⟨rfl, HW3, HB3, _⟩
     have HB4 := Aside0.mk HB3
     clear HW3 HB3
     go_wp2_with fail
     go_ret
     exact ⟨rfl, HB4.out⟩
    ·rw [if_neg k1]
     have e1 : (a0_0 == 1) = false := beq_eq_false_iff_ne.2 k1
     by_cases k0 : a0_0 = 0
     ·subst k0
      rw [show decide (((0 : Int) = 0 ∨ (0 : Int) = 2) ∧ a0_3 = 0) = (a0_3 == 0) by by_cases z : a0_3 = 0 <;> simp [z]]
      go_enter Try.func21, Try.ntmps21
      go_wp2_with fail
      refine (window_asks.calls K _ _ _ _ _ _ _ _ _ _ _ _ _ w _ HW.out HB.out A1.out).mono ?_
      rintro e w1 ⟨rfl, HW1, HB1, _⟩
      have HB2 := Aside0.mk HB1
      obtain ⟨A4, c4, hb, _, _⟩ := HW1
      have q0 := blk_cell hb 0
      have q3 := blk_cell hb 3
      clear HB1 hb
      simp at q0 q3
      go_wp2_with fail
      go_ret
      exact ⟨rfl, HB2.out⟩
     ·have e0 : (a0_0 == 0) = false := beq_eq_false_iff_ne.2 k0
      by_cases k2 : a0_0 = 2
      ·subst k2
       rw [show decide (((2 : Int) = 0 ∨ (2 : Int) = 2) ∧ a0_3 = 0) = (a0_3 == 0) by by_cases z : a0_3 = 0 <;> simp [z]]
       go_enter Try.func21, Try.ntmps21
       go_wp2_with fail
       refine (window_asks.calls K _ _ _ _ _ _ _ _ _ _ _ _ _ w _ HW.out HB.out A1.out).mono ?_
       rintro e w1 ⟨rfl, HW1, HB1, _⟩
       have HB2 := Aside0.mk HB1
       obtain ⟨A4, c4, hb, _, _⟩ := HW1
       have q0 := blk_cell hb 0
       have q3 := blk_cell hb 3
       clear HB1 hb
       simp at q0 q3
       go_wp2_with fail
       go_ret
       exact ⟨rfl, HB2.out⟩
      ·have e2 : (a0_0 == 2) = false := beq_eq_false_iff_ne.2 k2
       rw [decide_eq_false (show ¬ ((a0_0 = 0 ∨ a0_0 = 2) ∧ a0_3 = 0) by omega)]
       go_enter Try.func21, Try.ntmps21
       go_wp2_with fail
       refine (window_asks.calls K _ _ _ _ _ _ _ _ _ _ _ _ _ w _ HW.out HB.out A1.out).mono ?_
       rintro e w1 ⟨rfl, HW1, HB1, _⟩
       have HB2 := Aside0.mk HB1
       obtain ⟨A4, c4, hb, _, _⟩ := HW1
       have q0 := blk_cell hb 0
       have q3 := blk_cell hb 3
       clear HB1 hb
       simp at q0 q3
       go_wp2_with fail
       go_ret
       exact ⟨rfl, HB2.out⟩
theorem window_May.calls_nil (a0_0 : Int) (a0_1 : Int) (a0_2 : Int) (a0_3 : Int) (a0_5 : Int) (r : Bool) (w : World) (h : window_May.f a0_0 a0_1 a0_2 a0_3 ([] : List Int) a0_5 = some r) :
  Calls Try.prog 21 #[.agg #[.int .i64 a0_0, .int .i64 a0_1, .int .i64 a0_2, .int .i64 a0_3, .slice none 0 0, .int .i64 a0_5]] w fun e w' => e = .returned (.bool r) ∧ Below w.heap.size w w' :=
 window_May.calls a0_0 a0_1 a0_2 a0_3 none 0 [] a0_5 r w (Kd.C_nil _ _) (Nat.le_refl _) h

-- NOT PRINTED: function 20 (admit_May_1)

/-! ### admit_May: function 11, by a walk of its own -/
def qB (q : S42) : Bool := qMay q.f0 q.f1 q.f2 q.f3 q.f4 q.f5
def allQ (l : List S42) : Bool := l.all qB
/-- A query as it is handed to the predicate: with its bounds' slice; it may be read in the world w. -/
structure QV (w : World) where
 q : S42
 A : Option Addr
 c : Nat
 hr : Kd.C (Kd.int .i64) w A q.f4.length q.f4
 hc : q.f4.length ≤ c
def QV.enc {w : World} (x : QV w) : Array Value := #[.int .i64 x.q.f0, .int .i64 x.q.f1, .int .i64 x.q.f2, .int .i64 x.q.f3, .slice x.A x.q.f4.length x.c, .int .i64 x.q.f5]
set_option maxHeartbeats 2000000 in
set_option maxRecDepth 100000 in
theorem pred_calls {w : World} (x : QV w) (W : World) (hb : Below w.heap.size w W) :
  Calls Try.prog 20 #[.agg x.enc] W fun e w' => e = .returned (.bool (!qB x.q)) ∧ Below w.heap.size w w' := by
 obtain ⟨q, A, c, hr, hc⟩ := x
 unfold QV.enc
 dsimp only
 have HB := Aside0.mk hb
 have hb2 : Below W.heap.size W (W.alloc (.cells #[.int .i64 q.f0, .int .i64 q.f1, .int .i64 q.f2, .int .i64 q.f3, .slice A q.f4.length c, .int .i64 q.f5] 42 (0, 0))) := below_alloc (Below.refl _ _) _
 have HA := Aside0.mk (below_step hb hb2)
 have HR := Aside0.mk (Kd.C_below hr (below_step hb hb2))
 have HC := Aside0.mk hc
 have HM : Aside0 (window_May.f q.f0 q.f1 q.f2 q.f3 q.f4 q.f5 = some (qB q)) := ⟨rfl⟩
 clear hr hc hb hb2
 generalize qB q = r at *
 go_enter Try.func20, Try.ntmps20
 go_wp2_with fail
 refine (window_May.calls q.f0 q.f1 q.f2 q.f3 A c q.f4 q.f5 r _ HR.out HC.out HM.out).mono ?_
 rintro e w1 ⟨rfl, hb⟩
 have HD := Aside0.mk (below_step HA.out hb)
 clear hb
 go_wp2_with fail
 go_ret
 exact ⟨rfl, HD.out⟩
theorem all_snoc (l : List S42) (k : Nat) (h : k < l.length) (q : S42) (hq : rd_T42 l (k : Int) = q) (ha : (l.take k).all qB = true) : (qB q = true → (l.take (k + 1)).all qB = true) ∧ (qB q = false → allQ l = false) := by
 have e : l[k] = q := by
  rw [← hq]; unfold rd_T42
  rw [Int.toNat_natCast, List.getD_eq_getElem?_getD, List.getElem?_eq_getElem h]; rfl
 constructor
 ·intro hb
  rw [List.take_succ_eq_append_getElem h, List.all_append, ha, e]
  simp [hb]
 ·intro hb
  unfold allQ
  rw [Bool.eq_false_iff]
  intro hall
  rw [List.all_eq_true] at hall
  have := hall _ (List.getElem_mem h)
  rw [e, hb] at this
  cases this
def IdxPost (b : Bool) (w : World) (e : Ending) (w' : World) : Prop := ∃ i : Int, e = .returned (.int .i64 i) ∧ decide (0 ≤ i) = b ∧ Below w.heap.size w w'
set_option maxHeartbeats 4000000 in
set_option maxRecDepth 100000 in
theorem index_calls (A : Option Addr) (c : Nat) (l : List S42) (w : World) (hr : Kd.C k42 w A l.length l) (hc : l.length ≤ c) (hn : l.length ≤ 8) :
  Calls Try.prog 28 #[.slice A l.length c, .func (.func 20) #[] #[]] w (IdxPost (!allQ l) w) := by
 have HR := Aside0.mk hr
 have HC := Aside0.mk hc
 have eg : ∀ args w, (callFunc 20 args).run Try.prog w = .ok (.enter 20 args) w := enters_of Try.func20 (by kernel_rfl) rfl
 clear hr hc
 go_enter Try.func28, Try.ntmps28
 go_wp2
 go_loopw [5, 8] (fun _ s8 wr => ∃ kk : Nat, kk ≤ l.length ∧ s8 = .int .i64 kk ∧ Aside0 (Below w.heap.size w wr) ∧ Aside0 ((l.take kk).all qB = true)) (fun _ s8 _ => l.length - (intOf s8).toNat)
 case atStart => exact ⟨0, Nat.zero_le _, rfl, ⟨Below.refl _ _⟩, ⟨rfl⟩⟩
 case round =>
  obtain ⟨kk, hkk, rfl, BW, AL⟩ := hrel
  by_cases hlt : kk < l.length
  ·obtain ⟨ad, A4, c4, e, x0, x1, x2, x3, x4, x5, l4, g4⟩ := at_T42 (Kd.C_below HR.out BW.out) (kk : Int) (by omega) (by omega)
   simp only [Int.toNat_natCast] at x0 x1 x2 x3 x4 x5
   have hs := all_snoc l kk hlt _ rfl AL.out
   have hq := pred_calls (⟨rd_T42 l (kk : Int), A4, c4, g4, l4⟩ : QV wr) wr (Below.refl _ _)
   unfold QV.enc at hq
   dsimp only at hq
   clear g4 l4 AL HR
   subst e
   generalize rd_T42 l (kk : Int) = q at *
   have HS := Aside0.mk hs
   clear hs
   have hltz : (kk : Int) < (l.length : Int) := by omega
   cases hb : qB q with
    | true =>
    rw [hb] at hq
    have HQ := Aside0.mk hb
    clear hb
    go_wp2_with (go_at_fn 20; refine hq.mono ?_; rintro e w' ⟨rfl, hb'⟩)
    go_roundw
    case rel => exact ⟨kk + 1, by omega, by go_num, ⟨below_step BW.out hb'⟩, ⟨HS.out.1 HQ.out⟩⟩
    case measure => simp [intOf]; omega
    | false =>
    rw [hb] at hq
    have HQ := Aside0.mk hb
    clear hb
    go_wp2_with (go_at_fn 20; refine hq.mono ?_; rintro e w' ⟨rfl, hb'⟩)
    go_ret
    exact ⟨_, rfl, by rw [HS.out.2 HQ.out]; exact decide_eq_true (by omega), below_step BW.out hb'⟩
  ·have hltz : ¬ (kk : Int) < (l.length : Int) := by omega
   have e : allQ l = true := by
    have := AL.out
    rw [List.take_of_length_le (by omega)] at this
    exact this
   have E := Aside0.mk e
   clear e AL HR
   go_wp2
   go_ret
   exact ⟨_, rfl, by rw [E.out]; rfl, BW.out⟩
set_option maxHeartbeats 4000000 in
set_option maxRecDepth 100000 in
theorem contains_calls (A : Option Addr) (c : Nat) (l : List S42) (w : World) (hr : Kd.C k42 w A l.length l) (hc : l.length ≤ c) (hn : l.length ≤ 8) :
  Calls Try.prog 19 #[.slice A l.length c, .func (.func 20) #[] #[]] w fun e w' => e = .returned (.bool (!allQ l)) ∧ Below w.heap.size w w' := by
 have HI := Aside0.mk (index_calls A c l w hr hc hn)
 clear hr hc hn
 generalize (!allQ l) = b at *
 go_enter Try.func19, Try.ntmps19
 go_wp2_with fail
 refine HI.out.mono ?_
 rintro e w1 ⟨i, rfl, hi, hb⟩
 have HB := Aside0.mk hb
 clear hb
 go_wp2_with fail
 go_ret
 exact ⟨by rfl, HB.out⟩
def cMay (l : List S42) (late room series sources : Int) : Bool :=
 decide (1 ≤ l.length ∧ l.length ≤ 8) && allQ l && decide (0 ≤ late ∧ late ≤ 1073741824 ∧ 1 ≤ room ∧ room ≤ 4096 ∧ 1 ≤ series ∧ series ≤ 64 ∧ 1 ≤ sources ∧ sources ≤ 8)
def admit_May.f (l0_0 : List S42) (a0_1 : Int) (a0_2 : Int) (a0_3 : Int) (a0_4 : Int) : Option (Bool) := some (cMay l0_0 a0_1 a0_2 a0_3 a0_4)
set_option maxHeartbeats 8000000 in
set_option maxRecDepth 100000 in
theorem admit_May.calls (A0_0 : Option Addr) (c0_0 : Nat) (l0_0 : List (S42)) (a0_1 : Int) (a0_2 : Int) (a0_3 : Int) (a0_4 : Int) (r : Bool) (w : World) (hr0_0 : Kd.C k42 w A0_0 l0_0.length l0_0) (hc0_0 : l0_0.length ≤ c0_0) (h : admit_May.f l0_0 a0_1 a0_2 a0_3 a0_4 = some r) :
  Calls Try.prog 11 #[.agg #[.slice A0_0 l0_0.length c0_0, .int .i64 a0_1, .int .i64 a0_2, .int .i64 a0_3, .int .i64 a0_4]] w fun e w' => e = .returned (.bool r) ∧ Below w.heap.size w w' := by
 obtain rfl := Option.some.inj h
 clear h
 unfold cMay
 have HW : Aside0 ((w.alloc (.cells #[.slice A0_0 l0_0.length c0_0, .int .i64 a0_1, .int .i64 a0_2, .int .i64 a0_3, .int .i64 a0_4] 24 (0, 0))).heap[w.heap.size]? = some (.cells #[.slice A0_0 l0_0.length c0_0, .int .i64 a0_1, .int .i64 a0_2, .int .i64 a0_3, .int .i64 a0_4] 24 (0, 0))) :=
  ⟨by show (w.heap.push _)[w.heap.size]? = _; simp⟩
 have HB : Aside0 (Below w.heap.size w (w.alloc (.cells #[.slice A0_0 l0_0.length c0_0, .int .i64 a0_1, .int .i64 a0_2, .int .i64 a0_3, .int .i64 a0_4] 24 (0, 0)))) := ⟨below_alloc (Below.refl _ _) _⟩
 by_cases c1 : l0_0.length < 1
 ·rw [decide_eq_false (show ¬ (1 ≤ l0_0.length ∧ l0_0.length ≤ 8) by omega), Bool.false_and, Bool.false_and]
  have e1 : decide ((l0_0.length : Int) < 1) = true := decide_eq_true (by omega)
  have e2 : decide (l0_0.length < 1) = true := decide_eq_true c1
  have e3 : l0_0.length = 0 := by omega
  clear c1 hr0_0
  go_enter Try.func11, Try.ntmps11
  go_wp2_with fail
  go_ret
  exact ⟨rfl, below_alloc (Below.refl _ _) _⟩
 ·have e1 : decide ((l0_0.length : Int) < 1) = false := decide_eq_false (by omega)
  have e2 : decide (l0_0.length < 1) = false := decide_eq_false c1
  by_cases c2 : 8 < l0_0.length
  ·rw [decide_eq_false (show ¬ (1 ≤ l0_0.length ∧ l0_0.length ≤ 8) by omega), Bool.false_and, Bool.false_and]
   have e3 : decide (8 < (l0_0.length : Int)) = true := decide_eq_true (by omega)
   have e4 : decide (8 < l0_0.length) = true := decide_eq_true c2
   clear c1 hr0_0
   go_enter Try.func11, Try.ntmps11
   go_wp2_with fail
   go_ret
   exact ⟨rfl, below_alloc (Below.refl _ _) _⟩
  ·have e3 : decide (8 < (l0_0.length : Int)) = false := decide_eq_false (by omega)
   have e4 : decide (8 < l0_0.length) = false := decide_eq_false c2
   rw [decide_eq_true (show 1 ≤ l0_0.length ∧ l0_0.length ≤ 8 by omega), Bool.true_and]
   have HC := Aside0.mk (contains_calls A0_0 c0_0 l0_0 _ (Kd.C_below hr0_0 HB.out) hc0_0 (show l0_0.length ≤ 8 by omega))
   clear hr0_0 c1 c2
   generalize hv : allQ l0_0 = v at *
   clear hv
   obtain ⟨b, hb0⟩ : ∃ b, (v && decide (0 ≤ a0_1 ∧ a0_1 ≤ 1073741824 ∧ 1 ≤ a0_2 ∧ a0_2 ≤ 4096 ∧ 1 ≤ a0_3 ∧ a0_3 ≤ 64 ∧ 1 ≤ a0_4 ∧ a0_4 ≤ 8)) = b := ⟨_, rfl⟩
   rw [hb0]
   have HV := Aside0.mk hb0
   clear hb0
   go_enter Try.func11, Try.ntmps11
   go_wp2_with fail
   refine HC.out.mono ?_
   rintro e w1 ⟨rfl, hb⟩
   have HW1 := Aside0.mk (blk_below HW.out hb)
   have HB1 := Aside0.mk (below_step HB.out hb)
   clear hb HW HB HC e1 e2 e3 e4
   cases v with
    | false =>
    go_wp2_with fail
    go_ret
    exact ⟨by rw [← HV.out]; rfl, HB1.out⟩
    | true =>
    have q1 := blk_cell HW1.out 1
    have q2 := blk_cell HW1.out 2
    have q3 := blk_cell HW1.out 3
    have q4 := blk_cell HW1.out 4
    simp at q1 q2 q3 q4
    by_cases d0 : 0 ≤ a0_1
    ·have f0 := decide_eq_true d0
     by_cases d1 : a0_1 ≤ 1073741824
     ·have f1 := decide_eq_true d1
      by_cases d2 : 1 ≤ a0_2
      ·have f2 := decide_eq_true d2
       by_cases d3 : a0_2 ≤ 4096
       ·have f3 := decide_eq_true d3
        by_cases d4 : 1 ≤ a0_3
        ·have f4 := decide_eq_true d4
         by_cases d5 : a0_3 ≤ 64
         ·have f5 := decide_eq_true d5
          by_cases d6 : 1 ≤ a0_4
          ·have f6 := decide_eq_true d6
           by_cases d7 : a0_4 ≤ 8
           ·have f7 := decide_eq_true d7
            have HX := Aside0.mk (HV.out.symm.trans (show (true && decide (0 ≤ a0_1 ∧ a0_1 ≤ 1073741824 ∧ 1 ≤ a0_2 ∧ a0_2 ≤ 4096 ∧ 1 ≤ a0_3 ∧ a0_3 ≤ 64 ∧ 1 ≤ a0_4 ∧ a0_4 ≤ 8)) = true by rw [decide_eq_true (show 0 ≤ a0_1 ∧ a0_1 ≤ 1073741824 ∧ 1 ≤ a0_2 ∧ a0_2 ≤ 4096 ∧ 1 ≤ a0_3 ∧ a0_3 ≤ 64 ∧ 1 ≤ a0_4 ∧ a0_4 ≤ 8 by omega)]; rfl))
            clear d0 d1 d2 d3 d4 d5 d6 d7
            go_wp2_with fail
            go_ret
            exact ⟨by (try rw [HX.out]); (first | done | rfl | (simp only [f7]; done) | (simp [*]; done)), HB1.out⟩
           ·have f7 := decide_eq_false d7
            have HX := Aside0.mk (HV.out.symm.trans (show (true && decide (0 ≤ a0_1 ∧ a0_1 ≤ 1073741824 ∧ 1 ≤ a0_2 ∧ a0_2 ≤ 4096 ∧ 1 ≤ a0_3 ∧ a0_3 ≤ 64 ∧ 1 ≤ a0_4 ∧ a0_4 ≤ 8)) = false by rw [decide_eq_false (show ¬ (0 ≤ a0_1 ∧ a0_1 ≤ 1073741824 ∧ 1 ≤ a0_2 ∧ a0_2 ≤ 4096 ∧ 1 ≤ a0_3 ∧ a0_3 ≤ 64 ∧ 1 ≤ a0_4 ∧ a0_4 ≤ 8) by omega)]; rfl))
            clear d0 d1 d2 d3 d4 d5 d6 d7
            go_wp2_with fail
            go_ret
            exact ⟨by (try rw [HX.out]); (first | done | rfl | (simp only [f7]; done) | (simp [*]; done)), HB1.out⟩
          ·have f6 := decide_eq_false d6
           have HX := Aside0.mk (HV.out.symm.trans (show (true && decide (0 ≤ a0_1 ∧ a0_1 ≤ 1073741824 ∧ 1 ≤ a0_2 ∧ a0_2 ≤ 4096 ∧ 1 ≤ a0_3 ∧ a0_3 ≤ 64 ∧ 1 ≤ a0_4 ∧ a0_4 ≤ 8)) = false by rw [decide_eq_false (show ¬ (0 ≤ a0_1 ∧ a0_1 ≤ 1073741824 ∧ 1 ≤ a0_2 ∧ a0_2 ≤ 4096 ∧ 1 ≤ a0_3 ∧ a0_3 ≤ 64 ∧ 1 ≤ a0_4 ∧ a0_4 ≤ 8) by omega)]; rfl))
           clear d0 d1 d2 d3 d4 d5 d6
           go_wp2_with fail
           go_ret
           exact ⟨by (try rw [HX.out]); (first | done | rfl | (simp only [f7]; done) | (simp [*]; done)), HB1.out⟩
         ·have f5 := decide_eq_false d5
          have HX := Aside0.mk (HV.out.symm.trans (show (true && decide (0 ≤ a0_1 ∧ a0_1 ≤ 1073741824 ∧ 1 ≤ a0_2 ∧ a0_2 ≤ 4096 ∧ 1 ≤ a0_3 ∧ a0_3 ≤ 64 ∧ 1 ≤ a0_4 ∧ a0_4 ≤ 8)) = false by rw [decide_eq_false (show ¬ (0 ≤ a0_1 ∧ a0_1 ≤ 1073741824 ∧ 1 ≤ a0_2 ∧ a0_2 ≤ 4096 ∧ 1 ≤ a0_3 ∧ a0_3 ≤ 64 ∧ 1 ≤ a0_4 ∧ a0_4 ≤ 8) by omega)]; rfl))
          clear d0 d1 d2 d3 d4 d5
          go_wp2_with fail
          go_ret
          exact ⟨by (try rw [HX.out]); (first | done | rfl | (simp only [f7]; done) | (simp [*]; done)), HB1.out⟩
        ·have f4 := decide_eq_false d4
         have HX := Aside0.mk (HV.out.symm.trans (show (true && decide (0 ≤ a0_1 ∧ a0_1 ≤ 1073741824 ∧ 1 ≤ a0_2 ∧ a0_2 ≤ 4096 ∧ 1 ≤ a0_3 ∧ a0_3 ≤ 64 ∧ 1 ≤ a0_4 ∧ a0_4 ≤ 8)) = false by rw [decide_eq_false (show ¬ (0 ≤ a0_1 ∧ a0_1 ≤ 1073741824 ∧ 1 ≤ a0_2 ∧ a0_2 ≤ 4096 ∧ 1 ≤ a0_3 ∧ a0_3 ≤ 64 ∧ 1 ≤ a0_4 ∧ a0_4 ≤ 8) by omega)]; rfl))
         clear d0 d1 d2 d3 d4
         go_wp2_with fail
         go_ret
         exact ⟨by (try rw [HX.out]); (first | done | rfl | (simp only [f7]; done) | (simp [*]; done)), HB1.out⟩
       ·have f3 := decide_eq_false d3
        have HX := Aside0.mk (HV.out.symm.trans (show (true && decide (0 ≤ a0_1 ∧ a0_1 ≤ 1073741824 ∧ 1 ≤ a0_2 ∧ a0_2 ≤ 4096 ∧ 1 ≤ a0_3 ∧ a0_3 ≤ 64 ∧ 1 ≤ a0_4 ∧ a0_4 ≤ 8)) = false by rw [decide_eq_false (show ¬ (0 ≤ a0_1 ∧ a0_1 ≤ 1073741824 ∧ 1 ≤ a0_2 ∧ a0_2 ≤ 4096 ∧ 1 ≤ a0_3 ∧ a0_3 ≤ 64 ∧ 1 ≤ a0_4 ∧ a0_4 ≤ 8) by omega)]; rfl))
        clear d0 d1 d2 d3
        go_wp2_with fail
        go_ret
        exact ⟨by (try rw [HX.out]); (first | done | rfl | (simp only [f7]; done) | (simp [*]; done)), HB1.out⟩
      ·have f2 := decide_eq_false d2
       have HX := Aside0.mk (HV.out.symm.trans (show (true && decide (0 ≤ a0_1 ∧ a0_1 ≤ 1073741824 ∧ 1 ≤ a0_2 ∧ a0_2 ≤ 4096 ∧ 1 ≤ a0_3 ∧ a0_3 ≤ 64 ∧ 1 ≤ a0_4 ∧ a0_4 ≤ 8)) = false by rw [decide_eq_false (show ¬ (0 ≤ a0_1 ∧ a0_1 ≤ 1073741824 ∧ 1 ≤ a0_2 ∧ a0_2 ≤ 4096 ∧ 1 ≤ a0_3 ∧ a0_3 ≤ 64 ∧ 1 ≤ a0_4 ∧ a0_4 ≤ 8) by omega)]; rfl))
       clear d0 d1 d2
       go_wp2_with fail
       go_ret
       exact ⟨by (try rw [HX.out]); (first | done | rfl | (simp only [f7]; done) | (simp [*]; done)), HB1.out⟩
     ·have f1 := decide_eq_false d1
      have HX := Aside0.mk (HV.out.symm.trans (show (true && decide (0 ≤ a0_1 ∧ a0_1 ≤ 1073741824 ∧ 1 ≤ a0_2 ∧ a0_2 ≤ 4096 ∧ 1 ≤ a0_3 ∧ a0_3 ≤ 64 ∧ 1 ≤ a0_4 ∧ a0_4 ≤ 8)) = false by rw [decide_eq_false (show ¬ (0 ≤ a0_1 ∧ a0_1 ≤ 1073741824 ∧ 1 ≤ a0_2 ∧ a0_2 ≤ 4096 ∧ 1 ≤ a0_3 ∧ a0_3 ≤ 64 ∧ 1 ≤ a0_4 ∧ a0_4 ≤ 8) by omega)]; rfl))
      clear d0 d1
      go_wp2_with fail
      go_ret
      exact ⟨by (try rw [HX.out]); (first | done | rfl | (simp only [f7]; done) | (simp [*]; done)), HB1.out⟩
    ·have f0 := decide_eq_false d0
     have HX := Aside0.mk (HV.out.symm.trans (show (true && decide (0 ≤ a0_1 ∧ a0_1 ≤ 1073741824 ∧ 1 ≤ a0_2 ∧ a0_2 ≤ 4096 ∧ 1 ≤ a0_3 ∧ a0_3 ≤ 64 ∧ 1 ≤ a0_4 ∧ a0_4 ≤ 8)) = false by rw [decide_eq_false (show ¬ (0 ≤ a0_1 ∧ a0_1 ≤ 1073741824 ∧ 1 ≤ a0_2 ∧ a0_2 ≤ 4096 ∧ 1 ≤ a0_3 ∧ a0_3 ≤ 64 ∧ 1 ≤ a0_4 ∧ a0_4 ≤ 8) by omega)]; rfl))
     clear d0
     go_wp2_with fail
     go_ret
     exact ⟨by (try rw [HX.out]); (first | done | rfl | (simp only [f7]; done) | (simp [*]; done)), HB1.out⟩

/-! ### admit_LeastMay: function 16 -/
def admit_LeastMay.f (a0 : Int) : Option (Bool) := if a0 ≥ (-4398046511104) then (some (decide (a0 ≤ 4398046511104))) else (some false)
set_option maxHeartbeats 8000000 in
set_option maxRecDepth 100000 in
theorem admit_LeastMay.calls (a0 : Int) (r : Bool) (w : World) (h : admit_LeastMay.f a0 = some r) :
  Calls Try.prog 16 #[.int .i64 a0] w fun e w' => e = .returned (.bool r) ∧ Drawn0 w w' := by
 have H : (if a0 ≥ (-4398046511104) then (some (decide (a0 ≤ 4398046511104))) else (some false)) = some r := h
 clear h
 by_cases c2 : a0 ≥ (-4398046511104)
 ·rw [if_pos c2] at H
  have c2b0 : decide ((-4398046511104) ≤ a0) = true := decide_eq_true c2
  clear c2
  obtain rfl := Option.some.inj H
  go_enter Try.func16, Try.ntmps16
  go_wp2
  go_ret
  exact ⟨by first | rfl | (simp; done) | (simp [*]; done), by repeat (first | exact Drawn0.refl _ | apply Drawn0.step)⟩
 ·rw [if_neg c2] at H
  have c2b0 : decide ((-4398046511104) ≤ a0) = false := decide_eq_false c2
  clear c2
  obtain rfl := Option.some.inj H
  go_enter Try.func16, Try.ntmps16
  go_wp2
  go_ret
  exact ⟨by first | rfl | (simp; done) | (simp [*]; done), by repeat (first | exact Drawn0.refl _ | apply Drawn0.step)⟩

/-! ### wire_source: function 25 -/
def wire_source.f (a0 : Int) : Option (Bool) := if a0 ≥ 0 then (some (decide (a0 < 8))) else (some false)
set_option maxHeartbeats 8000000 in
set_option maxRecDepth 100000 in
theorem wire_source.calls (a0 : Int) (r : Bool) (w : World) (h : wire_source.f a0 = some r) :
  Calls Try.prog 25 #[.int .i64 a0] w fun e w' => e = .returned (.bool r) ∧ Drawn0 w w' := by
 have H : (if a0 ≥ 0 then (some (decide (a0 < 8))) else (some false)) = some r := h
 clear h
 by_cases c2 : a0 ≥ 0
 ·rw [if_pos c2] at H
  have c2b0 : decide (0 ≤ a0) = true := decide_eq_true c2
  clear c2
  obtain rfl := Option.some.inj H
  go_enter Try.func25, Try.ntmps25
  go_wp2
  go_ret
  exact ⟨by first | rfl | (simp; done) | (simp [*]; done), by repeat (first | exact Drawn0.refl _ | apply Drawn0.step)⟩
 ·rw [if_neg c2] at H
  have c2b0 : decide (0 ≤ a0) = false := decide_eq_false c2
  clear c2
  obtain rfl := Option.some.inj H
  go_enter Try.func25, Try.ntmps25
  go_wp2
  go_ret
  exact ⟨by first | rfl | (simp; done) | (simp [*]; done), by repeat (first | exact Drawn0.refl _ | apply Drawn0.step)⟩

end Go.Proofs.Ytcbckolcmfbjhaa.QAdmits
