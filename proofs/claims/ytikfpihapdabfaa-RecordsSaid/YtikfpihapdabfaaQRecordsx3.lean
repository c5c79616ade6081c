-- Written by a program of this session (wip/myprint.py), over the words of the print
import Derived.Test.YtikfpihapdabfaaQRecordsx0
import Derived.Test.YtikfpihapdabfaaQRecordsx2
import Derived.Shelf.Abstract
namespace Go.Proofs.Ytikfpihapdabfaa.QRecords
open Go.RowKit Go.Proofs.YtikfpihapdabfaaW.PrintWords Go.Proofs.YtikfpihapdabfaaW.PrintLast Go.Proofs.YtikfpihapdabfaaW.PrintMore
attribute [local go_sem] max2_int min2_int max_two min_two max_three min_three max_four min_four   -- for this text's walks alone
set_option linter.unusedVariables false
set_option linter.unusedSimpArgs false

/-! ### record_May: function 13, by a walk of its own -/
def hB (n : Int) : Bool := decide (0 ≤ n ∧ n ≤ 8192)
def serB (x : Int) : Bool := decide (0 ≤ x ∧ x ≤ 1048575)
def spanB (s e : Int) : Bool := decide (-4398046511104 ≤ s ∧ e ≤ 4398046511104 ∧ s < e)
def noneB (q s st en v : Int) (ov : Bool) (l : List Int) : Bool := (q == 0) && ((s == 0) && ((st == 0 && (en == 0)) && ((v == 0) && ((!ov) && ((l.length : Int) == 0)))))
def outB (v : Int) (ov : Bool) (l : List Int) : Bool := decide (-72057594037927940 ≤ v) && (decide (v ≤ 72057594037927940) && ((!ov || (v == 0)) && (decide ((l.length : Int) ≤ 9) && l.all hB)))
def resB (q s st en v : Int) (ov : Bool) (l : List Int) : Bool := decide (0 ≤ q) && (decide (q < 8) && (serB s && (spanB st en && outB v ov l)))
def refB (se ti sq : Int) : Bool := serB se && (decide (-1099511627776 ≤ ti) && (decide (ti ≤ 1099511627776) && (decide (1 ≤ sq) && decide (sq ≤ 1073741823))))
def bareB (se ti sq : Int) : Bool := (se == 0) && ((ti == 0) && (sq == 0))
/-- May a record be? -/
def recB (k q s st en v : Int) (ov : Bool) (l : List Int) (se ti sq by_ : Int) : Bool :=
 if k = 0 then resB q s st en v ov l && (bareB se ti sq && (by_ == 0))
 else if k = 1 ∨ k = 2 ∨ k = 3 then noneB q s st en v ov l && (refB se ti sq && (by_ == 0))
 else if k = 4 then noneB q s st en v ov l && (bareB se ti sq && (by_ == 0))
 else if k = 5 then noneB q s st en v ov l && (bareB se ti sq && (decide (1 ≤ by_) && decide (by_ ≤ 1073741823)))
 else false
theorem ser_eq (x : Int) : record_series.f x = some (serB x) := by
 unfold record_series.f serB
 by_cases h : x ≥ 0
 ·rw [if_pos h]; exact congrArg some (decide_eq_decide.2 (by omega))
 ·rw [if_neg h, decide_eq_false (by omega)]
theorem span_eq (s e : Int) : record_span.f s e = some (spanB s e) := by
 unfold record_span.f spanB
 by_cases h : s ≥ (-4398046511104)
 ·rw [if_pos h]
  by_cases h2 : e ≤ 4398046511104
  ·rw [if_pos h2]; exact congrArg some (decide_eq_decide.2 (by omega))
  ·rw [if_neg h2, decide_eq_false (by omega)]
 ·rw [if_neg h, decide_eq_false (by omega)]
attribute [irreducible] hB serB spanB
set_option maxHeartbeats 2000000 in
theorem bad_calls (n : Int) (w : World) : Calls Try.prog 41 #[.int .i64 n] w fun e w' => e = .returned (.bool (!hB n)) ∧ w = w' := by
 unfold hB
 by_cases h1 : 0 ≤ n
 ·have e1 : decide (n < 0) = false := decide_eq_false (by omega)
  rw [show decide (0 ≤ n ∧ n ≤ 8192) = decide (n ≤ 8192) from decide_eq_decide.2 (by omega)]
  by_cases h2 : n ≤ 8192
  ·have e2 : decide (8192 < n) = false := decide_eq_false (by omega)
   rw [decide_eq_true h2]
   clear h1 h2
   go_enter Try.func41, Try.ntmps41
   go_wp2
   go_ret
   exact ⟨rfl, rfl⟩
  ·have e2 : decide (8192 < n) = true := decide_eq_true (by omega)
   rw [decide_eq_false h2]
   clear h1 h2
   go_enter Try.func41, Try.ntmps41
   go_wp2
   go_ret
   exact ⟨rfl, rfl⟩
 ·have e1 : decide (n < 0) = true := decide_eq_true (by omega)
  rw [decide_eq_false (show ¬ (0 ≤ n ∧ n ≤ 8192) by omega)]
  clear h1
  go_enter Try.func41, Try.ntmps41
  go_wp2
  go_ret
  exact ⟨rfl, rfl⟩
theorem h_snoc (l : List Int) (k : Nat) (h : k < l.length) (q : Int) (hq : rd l (k : Int) = q) (ha : (l.take k).all hB = true) : (hB q = true → (l.take (k + 1)).all hB = true) ∧ (hB q = false → l.all hB = false) := by
 have e : l[k] = q := by
  rw [← hq]; unfold rd
  rw [Int.toNat_natCast, List.getD_eq_getElem?_getD, List.getElem?_eq_getElem h]; rfl
 constructor
 ·intro hb
  rw [List.take_succ_eq_append_getElem h, List.all_append, ha, e]
  simp [hb]
 ·intro hb
  rw [Bool.eq_false_iff]
  intro hall
  rw [List.all_eq_true] at hall
  have := hall _ (List.getElem_mem h)
  rw [e, hb] at this
  cases this
def IxPost (b : Bool) (w : World) (e : Ending) (w' : World) : Prop := ∃ i : Int, e = .returned (.int .i64 i) ∧ decide (0 ≤ i) = b ∧ w = w'
set_option maxHeartbeats 4000000 in
set_option maxRecDepth 100000 in
theorem ix_calls (A : Option Addr) (c : Nat) (l : List Int) (w : World) (hr : Kd.C (Kd.int .i64) w A l.length l) (hn : l.length ≤ 9) :
  Calls Try.prog 43 #[.slice A l.length c, .func (.func 41) #[] #[]] w (IxPost (!l.all hB) w) := by
 have HR := Aside0.mk hr
 have eg : ∀ args w, (callFunc 41 args).run Try.prog w = .ok (.enter 41 args) w := enters_of Try.func41 (by kernel_rfl) rfl
 clear hr
 go_enter Try.func43, Try.ntmps43
 go_wp2
 go_loop [5, 8] (fun _ s8 => ∃ kk : Nat, kk ≤ l.length ∧ s8 = .int .i64 kk ∧ Aside0 ((l.take kk).all hB = true)) (fun _ s8 => l.length - (intOf s8).toNat)
 case atStart => exact ⟨0, Nat.zero_le _, rfl, ⟨rfl⟩⟩
 case round =>
  obtain ⟨kk, hkk, rfl, AL⟩ := hrel
  by_cases hlt : kk < l.length
  ·obtain ⟨ad, e, _⟩ := HR.out.2.2 (by omega)
   subst e
   have x0 := Kd.foot_int HR.out (kk : Int) (by omega) (by omega)
   simp only [Int.toNat_natCast] at x0
   have hs := h_snoc l kk hlt _ rfl AL.out
   have hq := bad_calls (rd l (kk : Int)) w
   clear AL HR
   generalize rd l (kk : Int) = q at *
   have HS := Aside0.mk hs
   clear hs
   have hltz : (kk : Int) < (l.length : Int) := by omega
   cases hb : hB q with
    | true =>
    rw [hb] at hq
    have HQ := Aside0.mk hb
    clear hb
    go_wp2_with (go_at_fn 41; refine hq.mono ?_; rintro e w' ⟨rfl, rfl⟩)
    go_round
    case rel => exact ⟨kk + 1, by omega, by go_num, ⟨HS.out.1 HQ.out⟩⟩
    case measure => simp [intOf]; omega
    | false =>
    rw [hb] at hq
    have HQ := Aside0.mk hb
    clear hb
    go_wp2_with (go_at_fn 41; refine hq.mono ?_; rintro e w' ⟨rfl, rfl⟩)
    go_ret
    exact ⟨_, rfl, by rw [HS.out.2 HQ.out]; exact decide_eq_true (by omega), rfl⟩
  ·have hltz : ¬ (kk : Int) < (l.length : Int) := by omega
   have e : l.all hB = true := by
    have := AL.out
    rw [List.take_of_length_le (by omega)] at this
    exact this
   have E := Aside0.mk e
   clear e AL HR
   go_wp2
   go_ret
   exact ⟨_, rfl, by rw [E.out]; rfl, rfl⟩
set_option maxHeartbeats 4000000 in
set_option maxRecDepth 100000 in
theorem ct_calls (A : Option Addr) (c : Nat) (l : List Int) (w : World) (hr : Kd.C (Kd.int .i64) w A l.length l) (hn : l.length ≤ 9) :
  Calls Try.prog 42 #[.slice A l.length c, .func (.func 41) #[] #[]] w fun e w' => e = .returned (.bool (!l.all hB)) ∧ w = w' := by
 have HI := Aside0.mk (ix_calls A c l w hr hn)
 clear hr hn
 generalize (!l.all hB) = b at *
 go_enter Try.func42, Try.ntmps42
 go_wp2_with fail
 refine HI.out.mono ?_
 rintro e w1 ⟨i, rfl, hi, rfl⟩
 go_wp2_with fail
 go_ret
 exact ⟨by rfl, rfl⟩
/-- A record's box. -/
def RC (W : World) (g : Nat) (k q s st en v : Int) (ov : Bool) (A : Option Addr) (c : Nat) (l : List Int) (se ti sq by_ : Int) : Prop := W.heap[g]? = some (.cells #[.int .i64 k, .int .i64 q, .int .i64 s, .int .i64 st, .int .i64 en, .int .i64 v, .bool ov, .slice A l.length c, .int .i64 se, .int .i64 ti, .int .i64 sq, .int .i64 by_] 30 (0, 0))
set_option maxHeartbeats 4000000 in
set_option maxRecDepth 100000 in
theorem none_calls (g : Nat) (k q s st en v : Int) (ov : Bool) (A : Option Addr) (c : Nat) (l : List Int) (se ti sq by_ : Int) (w : World) (h : RC w g k q s st en v ov A c l se ti sq by_) : Calls Try.prog 26 #[.pointer (some ⟨g, 1, none⟩)] w fun e w' => e = .returned (.bool (noneB q s st en v ov l)) ∧ w = w' := by
 have hu := Try.underlying23
 have x1 := blk_cell (show w.heap[g]? = _ from h) 1
 have x2 := blk_cell (show w.heap[g]? = _ from h) 2
 have x3 := blk_cell (show w.heap[g]? = _ from h) 3
 have x4 := blk_cell (show w.heap[g]? = _ from h) 4
 have x5 := blk_cell (show w.heap[g]? = _ from h) 5
 have x6 := blk_cell (show w.heap[g]? = _ from h) 6
 have x7 := blk_cell (show w.heap[g]? = _ from h) 7
 simp at x1 x2 x3 x4 x5 x6 x7
 clear h
 unfold noneB
 cases e0 : (q == 0) with
  | false =>
  simp only [Bool.false_and, Bool.true_and]
  go_enter Try.func26, Try.ntmps26
  go_wp2_with fail
  all_goals first | (exfalso; simp_all; done) | (go_ret; exact ⟨by first | rfl | (simp [*]; done), rfl⟩)
  | true =>
  cases e1 : (s == 0) with
   | false =>
   simp only [Bool.false_and, Bool.true_and]
   go_enter Try.func26, Try.ntmps26
   go_wp2_with fail
   all_goals first | (exfalso; simp_all; done) | (go_ret; exact ⟨by first | rfl | (simp [*]; done), rfl⟩)
   | true =>
   cases e2 : (st == 0 && (en == 0)) with
    | false =>
    simp only [Bool.false_and, Bool.true_and]
    go_enter Try.func26, Try.ntmps26
    go_wp2_with fail
    all_goals first | (exfalso; simp_all; done) | (go_ret; exact ⟨by first | rfl | (simp [*]; done), rfl⟩)
    | true =>
    cases e3 : (v == 0) with
     | false =>
     simp only [Bool.false_and, Bool.true_and]
     go_enter Try.func26, Try.ntmps26
     go_wp2_with fail
     all_goals first | (exfalso; simp_all; done) | (go_ret; exact ⟨by first | rfl | (simp [*]; done), rfl⟩)
     | true =>
     cases e4 : (!ov) with
      | false =>
      simp only [Bool.false_and, Bool.true_and]
      go_enter Try.func26, Try.ntmps26
      go_wp2_with fail
      all_goals first | (exfalso; simp_all; done) | (go_ret; exact ⟨by first | rfl | (simp [*]; done), rfl⟩)
      | true =>
      cases e5 : ((l.length : Int) == 0) with
       | false =>
       simp only [Bool.false_and, Bool.true_and]
       go_enter Try.func26, Try.ntmps26
       go_wp2_with fail
       all_goals first | (exfalso; simp_all; done) | (go_ret; exact ⟨by first | rfl | (simp [*]; done), rfl⟩)
       | true =>
       simp only [Bool.true_and]
       go_enter Try.func26, Try.ntmps26
       go_wp2_with fail
       all_goals first | (exfalso; simp_all; done) | (go_ret; exact ⟨by first | rfl | (simp [*]; done), rfl⟩)
set_option maxHeartbeats 4000000 in
set_option maxRecDepth 100000 in
theorem out_calls (g : Nat) (k q s st en v : Int) (ov : Bool) (A : Option Addr) (c : Nat) (l : List Int) (se ti sq by_ : Int) (w : World) (h : RC w g k q s st en v ov A c l se ti sq by_) (hr : Kd.C (Kd.int .i64) w A l.length l) : Calls Try.prog 37 #[.pointer (some ⟨g, 5, none⟩)] w fun e w' => e = .returned (.bool (outB v ov l)) ∧ w = w' := by
 have x5 := blk_cell (show w.heap[g]? = _ from h) 5
 have x6 := blk_cell (show w.heap[g]? = _ from h) 6
 have x7 := blk_cell (show w.heap[g]? = _ from h) 7
 simp at x5 x6 x7
 clear h
 unfold outB
 cases e0 : decide (-72057594037927940 ≤ v) with
  | false =>
  simp only [Bool.false_and]
  go_enter Try.func37, Try.ntmps37
  go_wp2_with fail
  all_goals first | (exfalso; simp_all; done) | (go_ret; exact ⟨by first | rfl | (simp [*]; done), rfl⟩)
  | true =>
  cases e1 : decide (v ≤ 72057594037927940) with
   | false =>
   simp only [Bool.false_and, Bool.true_and]
   go_enter Try.func37, Try.ntmps37
   go_wp2_with fail
   all_goals first | (exfalso; simp_all; done) | (go_ret; exact ⟨by first | rfl | (simp [*]; done), rfl⟩)
   | true =>
   cases ov with
    | false =>
    cases e3 : decide ((l.length : Int) ≤ 9) with
     | false =>
     simp only [Bool.false_and, Bool.true_and, Bool.not_false, Bool.not_true, Bool.true_or, Bool.false_or]
     go_enter Try.func37, Try.ntmps37
     go_wp2_with fail
     all_goals first | (exfalso; simp_all; done) | (go_ret; exact ⟨by first | rfl | (simp [*]; done), rfl⟩)
     | true =>
     have HCT := Aside0.mk (ct_calls A c l w hr (by have := of_decide_eq_true e3; omega))
     clear hr
     generalize l.all hB = hv at *
     cases hv with
      | false =>
      simp only [Bool.false_and, Bool.true_and, Bool.and_false, Bool.and_true, Bool.not_false, Bool.not_true, Bool.true_or, Bool.false_or] at HCT ⊢
      go_enter Try.func37, Try.ntmps37
      go_wp2_with (first | (go_at_call 42; (with_reducible refine HCT.out.mono ?_); rintro e w1 ⟨rfl, rfl⟩) | (go_at_fn 42; (with_reducible refine HCT.out.mono ?_); rintro e w1 ⟨rfl, rfl⟩))
      all_goals first | (exfalso; simp_all; done) | (go_ret; exact ⟨by first | rfl | (simp [*]; done), rfl⟩)
      | true =>
      simp only [Bool.false_and, Bool.true_and, Bool.and_false, Bool.and_true, Bool.not_false, Bool.not_true, Bool.true_or, Bool.false_or] at HCT ⊢
      go_enter Try.func37, Try.ntmps37
      go_wp2_with (first | (go_at_call 42; (with_reducible refine HCT.out.mono ?_); rintro e w1 ⟨rfl, rfl⟩) | (go_at_fn 42; (with_reducible refine HCT.out.mono ?_); rintro e w1 ⟨rfl, rfl⟩))
      all_goals first | (exfalso; simp_all; done) | (go_ret; exact ⟨by first | rfl | (simp [*]; done), rfl⟩)
    | true =>
    cases e2 : (v == 0) with
     | false =>
     simp only [Bool.false_and, Bool.true_and, Bool.not_false, Bool.not_true, Bool.true_or, Bool.false_or]
     go_enter Try.func37, Try.ntmps37
     go_wp2_with fail
     all_goals first | (exfalso; simp_all; done) | (go_ret; exact ⟨by first | rfl | (simp [*]; done), rfl⟩)
     | true =>
     cases e3 : decide ((l.length : Int) ≤ 9) with
      | false =>
      simp only [Bool.false_and, Bool.true_and, Bool.not_false, Bool.not_true, Bool.true_or, Bool.false_or]
      go_enter Try.func37, Try.ntmps37
      go_wp2_with fail
      all_goals first | (exfalso; simp_all; done) | (go_ret; exact ⟨by first | rfl | (simp [*]; done), rfl⟩)
      | true =>
      have HCT := Aside0.mk (ct_calls A c l w hr (by have := of_decide_eq_true e3; omega))
      clear hr
      generalize l.all hB = hv at *
      cases hv with
       | false =>
       simp only [Bool.false_and, Bool.true_and, Bool.and_false, Bool.and_true, Bool.not_false, Bool.not_true, Bool.true_or, Bool.false_or] at HCT ⊢
       go_enter Try.func37, Try.ntmps37
       go_wp2_with (first | (go_at_call 42; (with_reducible refine HCT.out.mono ?_); rintro e w1 ⟨rfl, rfl⟩) | (go_at_fn 42; (with_reducible refine HCT.out.mono ?_); rintro e w1 ⟨rfl, rfl⟩))
       all_goals first | (exfalso; simp_all; done) | (go_ret; exact ⟨by first | rfl | (simp [*]; done), rfl⟩)
       | true =>
       simp only [Bool.false_and, Bool.true_and, Bool.and_false, Bool.and_true, Bool.not_false, Bool.not_true, Bool.true_or, Bool.false_or] at HCT ⊢
       go_enter Try.func37, Try.ntmps37
       go_wp2_with (first | (go_at_call 42; (with_reducible refine HCT.out.mono ?_); rintro e w1 ⟨rfl, rfl⟩) | (go_at_fn 42; (with_reducible refine HCT.out.mono ?_); rintro e w1 ⟨rfl, rfl⟩))
       all_goals first | (exfalso; simp_all; done) | (go_ret; exact ⟨by first | rfl | (simp [*]; done), rfl⟩)
set_option maxHeartbeats 4000000 in
set_option maxRecDepth 100000 in
theorem ref_calls (g : Nat) (k q s st en v : Int) (ov : Bool) (A : Option Addr) (c : Nat) (l : List Int) (se ti sq by_ : Int) (w : World) (h : RC w g k q s st en v ov A c l se ti sq by_) : Calls Try.prog 27 #[.pointer (some ⟨g, 0, none⟩)] w fun e w' => e = .returned (.bool (refB se ti sq)) ∧ Drawn0 w w' := by
 have x8 := blk_cell (show w.heap[g]? = _ from h) 8
 have x9 := blk_cell (show w.heap[g]? = _ from h) 9
 have x10 := blk_cell (show w.heap[g]? = _ from h) 10
 simp at x8 x9 x10
 clear h
 unfold refB
 have HS := Aside0.mk (ser_eq se)
 generalize serB se = sv at *
 cases sv with
  | false =>
  simp only [Bool.false_and, Bool.true_and, Bool.and_false]
  go_enter Try.func27, Try.ntmps27
  go_wp2_with (go_at_call 35; (with_reducible refine (record_series.calls se false _ HS.out).mono ?_); rintro e w1 ⟨rfl, ⟨nd, rfl⟩⟩)
  go_ret
  exact ⟨by first | rfl | (simp [*]; done), by repeat (first | exact Drawn0.refl _ | apply Drawn0.step)⟩
  | true =>
  cases e1 : decide (-1099511627776 ≤ ti) with
   | false =>
   simp only [Bool.false_and, Bool.true_and, Bool.and_false]
   go_enter Try.func27, Try.ntmps27
   go_wp2_with (go_at_call 35; (with_reducible refine (record_series.calls se true _ HS.out).mono ?_); rintro e w1 ⟨rfl, ⟨nd, rfl⟩⟩)
   go_ret
   exact ⟨by first | rfl | (simp [*]; done), by repeat (first | exact Drawn0.refl _ | apply Drawn0.step)⟩
   | true =>
   cases e2 : decide (ti ≤ 1099511627776) with
    | false =>
    simp only [Bool.false_and, Bool.true_and, Bool.and_false]
    go_enter Try.func27, Try.ntmps27
    go_wp2_with (go_at_call 35; (with_reducible refine (record_series.calls se true _ HS.out).mono ?_); rintro e w1 ⟨rfl, ⟨nd, rfl⟩⟩)
    go_ret
    exact ⟨by first | rfl | (simp [*]; done), by repeat (first | exact Drawn0.refl _ | apply Drawn0.step)⟩
    | true =>
    cases e3 : decide (1 ≤ sq) with
     | false =>
     simp only [Bool.false_and, Bool.true_and, Bool.and_false]
     go_enter Try.func27, Try.ntmps27
     go_wp2_with (go_at_call 35; (with_reducible refine (record_series.calls se true _ HS.out).mono ?_); rintro e w1 ⟨rfl, ⟨nd, rfl⟩⟩)
     go_ret
     exact ⟨by first | rfl | (simp [*]; done), by repeat (first | exact Drawn0.refl _ | apply Drawn0.step)⟩
     | true =>
     cases e4 : decide (sq ≤ 1073741823) with
      | false =>
      simp only [Bool.false_and, Bool.true_and, Bool.and_false]
      go_enter Try.func27, Try.ntmps27
      go_wp2_with (go_at_call 35; (with_reducible refine (record_series.calls se true _ HS.out).mono ?_); rintro e w1 ⟨rfl, ⟨nd, rfl⟩⟩)
      go_ret
      exact ⟨by first | rfl | (simp [*]; done), by repeat (first | exact Drawn0.refl _ | apply Drawn0.step)⟩
      | true =>
      simp only [Bool.true_and]
      go_enter Try.func27, Try.ntmps27
      go_wp2_with (go_at_call 35; (with_reducible refine (record_series.calls se true _ HS.out).mono ?_); rintro e w1 ⟨rfl, ⟨nd, rfl⟩⟩)
      go_ret
      exact ⟨by first | rfl | (simp [*]; done), by repeat (first | exact Drawn0.refl _ | apply Drawn0.step)⟩
set_option maxHeartbeats 4000000 in
set_option maxRecDepth 100000 in
theorem res_calls (g : Nat) (k q s st en v : Int) (ov : Bool) (A : Option Addr) (c : Nat) (l : List Int) (se ti sq by_ : Int) (w : World) (h : RC w g k q s st en v ov A c l se ti sq by_) (hr : Kd.C (Kd.int .i64) w A l.length l) : Calls Try.prog 25 #[.pointer (some ⟨g, 1, none⟩)] w fun e w' => e = .returned (.bool (resB q s st en v ov l)) ∧ Below w.heap.size w w' := by
 have x1 := blk_cell (show w.heap[g]? = _ from h) 1
 have x2 := blk_cell (show w.heap[g]? = _ from h) 2
 have x3 := blk_cell (show w.heap[g]? = _ from h) 3
 have x4 := blk_cell (show w.heap[g]? = _ from h) 4
 simp at x1 x2 x3 x4
 unfold resB
 have HS := Aside0.mk (ser_eq s)
 have HP := Aside0.mk (span_eq st en)
 have HO := Aside0.mk (fun (W : World) (hb : Below w.heap.size w W) => out_calls g k q s st en v ov A c l se ti sq by_ W (blk_below h hb) (Kd.C_below hr hb))
 clear h hr
 generalize serB s = sv at *
 generalize spanB st en = pv at *
 generalize outB v ov l = zv at *
 cases e0 : decide (0 ≤ q) with
  | false =>
  simp only [Bool.false_and, Bool.true_and, Bool.and_false]
  go_enter Try.func25, Try.ntmps25
  go_wp2_with (first | (go_at_call 35; (with_reducible refine (record_series.calls s true _ HS.out).mono ?_); rintro e w1 ⟨rfl, ⟨nd, rfl⟩⟩) | (go_at_call 36; (with_reducible refine (record_span.calls st en true _ HP.out).mono ?_); rintro e w2 ⟨rfl, hb⟩; have HB2 := Aside0.mk (below_step (pw_below_drewN (Below.refl w.heap.size w) _) hb); clear hb) | (go_at_call 37; refine (HO.out _ HB2.out).mono ?_; rintro e w3 ⟨rfl, rfl⟩))
  go_ret
  exact ⟨by first | rfl | (simp [*]; done), by first | exact HB2.out | exact pw_below_drewN (Below.refl _ _) _ | exact Below.refl _ _⟩
  | true =>
  cases e1 : decide (q < 8) with
   | false =>
   simp only [Bool.false_and, Bool.true_and, Bool.and_false]
   go_enter Try.func25, Try.ntmps25
   go_wp2_with (first | (go_at_call 35; (with_reducible refine (record_series.calls s true _ HS.out).mono ?_); rintro e w1 ⟨rfl, ⟨nd, rfl⟩⟩) | (go_at_call 36; (with_reducible refine (record_span.calls st en true _ HP.out).mono ?_); rintro e w2 ⟨rfl, hb⟩; have HB2 := Aside0.mk (below_step (pw_below_drewN (Below.refl w.heap.size w) _) hb); clear hb) | (go_at_call 37; refine (HO.out _ HB2.out).mono ?_; rintro e w3 ⟨rfl, rfl⟩))
   go_ret
   exact ⟨by first | rfl | (simp [*]; done), by first | exact HB2.out | exact pw_below_drewN (Below.refl _ _) _ | exact Below.refl _ _⟩
   | true =>
   cases sv with
    | false =>
    simp only [Bool.false_and, Bool.true_and, Bool.and_false]
    go_enter Try.func25, Try.ntmps25
    go_wp2_with (first | (go_at_call 35; (with_reducible refine (record_series.calls s false _ HS.out).mono ?_); rintro e w1 ⟨rfl, ⟨nd, rfl⟩⟩) | (go_at_call 36; (with_reducible refine (record_span.calls st en true _ HP.out).mono ?_); rintro e w2 ⟨rfl, hb⟩; have HB2 := Aside0.mk (below_step (pw_below_drewN (Below.refl w.heap.size w) _) hb); clear hb) | (go_at_call 37; refine (HO.out _ HB2.out).mono ?_; rintro e w3 ⟨rfl, rfl⟩))
    go_ret
    exact ⟨by first | rfl | (simp [*]; done), by first | exact HB2.out | exact pw_below_drewN (Below.refl _ _) _ | exact Below.refl _ _⟩
    | true =>
    cases pv with
     | false =>
     simp only [Bool.false_and, Bool.true_and, Bool.and_false]
     go_enter Try.func25, Try.ntmps25
     go_wp2_with (first | (go_at_call 35; (with_reducible refine (record_series.calls s true _ HS.out).mono ?_); rintro e w1 ⟨rfl, ⟨nd, rfl⟩⟩) | (go_at_call 36; (with_reducible refine (record_span.calls st en false _ HP.out).mono ?_); rintro e w2 ⟨rfl, hb⟩; have HB2 := Aside0.mk (below_step (pw_below_drewN (Below.refl w.heap.size w) _) hb); clear hb) | (go_at_call 37; refine (HO.out _ HB2.out).mono ?_; rintro e w3 ⟨rfl, rfl⟩))
     go_ret
     exact ⟨by first | rfl | (simp [*]; done), by first | exact HB2.out | exact pw_below_drewN (Below.refl _ _) _ | exact Below.refl _ _⟩
     | true =>
     cases zv with
      | false =>
      simp only [Bool.false_and, Bool.true_and, Bool.and_false]
      go_enter Try.func25, Try.ntmps25
      go_wp2_with (first | (go_at_call 35; (with_reducible refine (record_series.calls s true _ HS.out).mono ?_); rintro e w1 ⟨rfl, ⟨nd, rfl⟩⟩) | (go_at_call 36; (with_reducible refine (record_span.calls st en true _ HP.out).mono ?_); rintro e w2 ⟨rfl, hb⟩; have HB2 := Aside0.mk (below_step (pw_below_drewN (Below.refl w.heap.size w) _) hb); clear hb) | (go_at_call 37; refine (HO.out _ HB2.out).mono ?_; rintro e w3 ⟨rfl, rfl⟩))
      go_ret
      exact ⟨by first | rfl | (simp [*]; done), by first | exact HB2.out | exact pw_below_drewN (Below.refl _ _) _ | exact Below.refl _ _⟩
      | true =>
      simp only [Bool.true_and]
      go_enter Try.func25, Try.ntmps25
      go_wp2_with (first | (go_at_call 35; (with_reducible refine (record_series.calls s true _ HS.out).mono ?_); rintro e w1 ⟨rfl, ⟨nd, rfl⟩⟩) | (go_at_call 36; (with_reducible refine (record_span.calls st en true _ HP.out).mono ?_); rintro e w2 ⟨rfl, hb⟩; have HB2 := Aside0.mk (below_step (pw_below_drewN (Below.refl w.heap.size w) _) hb); clear hb) | (go_at_call 37; refine (HO.out _ HB2.out).mono ?_; rintro e w3 ⟨rfl, rfl⟩))
      go_ret
      exact ⟨by first | rfl | (simp [*]; done), by first | exact HB2.out | exact pw_below_drewN (Below.refl _ _) _ | exact Below.refl _ _⟩
def record_May.f (a0_0 : Int) (a0_1 : Int) (a0_2 : Int) (a0_3 : Int) (a0_4 : Int) (a0_5 : Int) (a0_6 : Bool) (l0_7 : List Int) (a0_8 : Int) (a0_9 : Int) (a0_10 : Int) (a0_11 : Int) : Option (Bool) := some (recB a0_0 a0_1 a0_2 a0_3 a0_4 a0_5 a0_6 l0_7 a0_8 a0_9 a0_10 a0_11)
attribute [irreducible] noneB outB resB refB
set_option maxHeartbeats 4000000 in
set_option maxRecDepth 100000 in
theorem may_calls (k q s st en v : Int) (ov : Bool) (A : Option Addr) (c : Nat) (l : List Int) (se ti sq by_ : Int) (w : World) (hr : Kd.C (Kd.int .i64) w A l.length l) :
  Calls Try.prog 13 #[.agg #[.int .i64 k, .int .i64 q, .int .i64 s, .int .i64 st, .int .i64 en, .int .i64 v, .bool ov, .slice A l.length c, .int .i64 se, .int .i64 ti, .int .i64 sq, .int .i64 by_]] w fun e w' => e = .returned (.bool (recB k q s st en v ov l se ti sq by_)) ∧ Below w.heap.size w w' := by
 have hb0 : Below w.heap.size w (w.alloc (.cells #[.int .i64 k, .int .i64 q, .int .i64 s, .int .i64 st, .int .i64 en, .int .i64 v, .bool ov, .slice A l.length c, .int .i64 se, .int .i64 ti, .int .i64 sq, .int .i64 by_] 30 (0, 0))) := below_alloc (Below.refl _ _) _
 have h0 : RC (w.alloc (.cells #[.int .i64 k, .int .i64 q, .int .i64 s, .int .i64 st, .int .i64 en, .int .i64 v, .bool ov, .slice A l.length c, .int .i64 se, .int .i64 ti, .int .i64 sq, .int .i64 by_] 30 (0, 0))) w.heap.size k q s st en v ov A c l se ti sq by_ := by show (w.heap.push _)[w.heap.size]? = _; simp
 have HW := Aside0.mk h0
 have HB := Aside0.mk hb0
 have HRES := Aside0.mk (res_calls w.heap.size k q s st en v ov A c l se ti sq by_ _ h0 (Kd.C_below hr hb0))
 have HNONE := Aside0.mk (none_calls w.heap.size k q s st en v ov A c l se ti sq by_ _ h0)
 have HREF := Aside0.mk (ref_calls w.heap.size k q s st en v ov A c l se ti sq by_ _ h0)
 clear hr hb0 h0
 unfold recB
 generalize resB q s st en v ov l = rv at *
 generalize noneB q s st en v ov l = nv at *
 generalize refB se ti sq = fv at *
 obtain ⟨bv, hbv⟩ : ∃ bv, bareB se ti sq = bv := ⟨_, rfl⟩
 rw [hbv]
 have EB := Aside0.mk hbv
 clear hbv
 obtain ⟨rb, hrb⟩ : ∃ rb, (if k = 0 then rv && (bv && (by_ == 0)) else if k = 1 ∨ k = 2 ∨ k = 3 then nv && (fv && (by_ == 0)) else if k = 4 then nv && (bv && (by_ == 0)) else if k = 5 then nv && (bv && (decide (1 ≤ by_) && decide (by_ ≤ 1073741823))) else false) = rb := ⟨_, rfl⟩
 rw [hrb]
 have HX := Aside0.mk hrb
 clear hrb
 go_enter Try.func13, Try.ntmps13
 go_upto_region 1 with (fail)
 go_cut [3] (fun v3 wc => v3 = .bool bv ∧ wc = w.alloc (.cells #[.int .i64 k, .int .i64 q, .int .i64 s, .int .i64 st, .int .i64 en, .int .i64 v, .bool ov, .slice A l.length c, .int .i64 se, .int .i64 ti, .int .i64 sq, .int .i64 by_] 30 (0, 0)))
 case first =>
  have hb := EB.out
  unfold bareB at hb
  clear EB
  cases e0 : (se == 0) with
   | false =>
   rw [e0, Bool.false_and] at hb
   subst hb
   go_wp2_with fail
   go_meet
   case rel => exact ⟨rfl, rfl⟩
   | true =>
   cases e1 : (ti == 0) with
    | false =>
    rw [e0, e1, Bool.false_and, Bool.and_false] at hb
    subst hb
    go_wp2_with fail
    go_meet
    case rel => exact ⟨rfl, rfl⟩
    | true =>
    rw [e0, e1, Bool.true_and, Bool.true_and] at hb
    go_wp2_with fail
    go_meet
    case rel => exact ⟨by first | rfl | rw [hb], rfl⟩
 case rest =>
  obtain ⟨rfl, rfl⟩ := hcut
  generalize w.alloc _ = W0 at *
  clear EB
  have x0 := blk_cell (show W0.heap[w.heap.size]? = _ from HW.out) 0
  have x11 := blk_cell (show W0.heap[w.heap.size]? = _ from HW.out) 11
  simp at x0 x11
  by_cases k0 : k = 0
  ·subst k0
   cases rv with
    | false =>
    go_wp2_with (first | (go_at_call 25; refine HRES.out.mono ?_; rintro e w1 ⟨rfl, hb⟩; have HB1 := Aside0.mk (below_step HB.out hb); have y11 := blk_cell (blk_below (show W0.heap[w.heap.size]? = _ from HW.out) hb) 11; simp at y11; clear hb))
    go_ret
    exact ⟨by rw [← HX.out]; (first | rfl | (simp [*]; done)), by first | exact HB1.out | exact pw_below_drewN HB.out _ | exact HB.out⟩
    | true =>
    cases bv with
     | false =>
     go_wp2_with (first | (go_at_call 25; refine HRES.out.mono ?_; rintro e w1 ⟨rfl, hb⟩; have HB1 := Aside0.mk (below_step HB.out hb); have y11 := blk_cell (blk_below (show W0.heap[w.heap.size]? = _ from HW.out) hb) 11; simp at y11; clear hb))
     go_ret
     exact ⟨by rw [← HX.out]; (first | rfl | (simp [*]; done)), by first | exact HB1.out | exact pw_below_drewN HB.out _ | exact HB.out⟩
     | true =>
     cases e1 : (by_ == 0) with
      | false =>
      go_wp2_with (first | (go_at_call 25; refine HRES.out.mono ?_; rintro e w1 ⟨rfl, hb⟩; have HB1 := Aside0.mk (below_step HB.out hb); have y11 := blk_cell (blk_below (show W0.heap[w.heap.size]? = _ from HW.out) hb) 11; simp at y11; clear hb))
      go_ret
      exact ⟨by rw [← HX.out]; (first | rfl | (simp [*]; done)), by first | exact HB1.out | exact pw_below_drewN HB.out _ | exact HB.out⟩
      | true =>
      go_wp2_with (first | (go_at_call 25; refine HRES.out.mono ?_; rintro e w1 ⟨rfl, hb⟩; have HB1 := Aside0.mk (below_step HB.out hb); have y11 := blk_cell (blk_below (show W0.heap[w.heap.size]? = _ from HW.out) hb) 11; simp at y11; clear hb))
      go_ret
      exact ⟨by rw [← HX.out]; (first | rfl | (simp [*]; done)), by first | exact HB1.out | exact pw_below_drewN HB.out _ | exact HB.out⟩
  ·have f0 : (k == 0) = false := beq_eq_false_iff_ne.2 k0
   by_cases k1 : k = 1
   ·subst k1
    cases nv with
     | false =>
     go_wp2_with (first | (go_at_call 26; refine HNONE.out.mono ?_; rintro e w1 ⟨rfl, rfl⟩) | (go_at_call 27; refine HREF.out.mono ?_; rintro e w1 ⟨rfl, ⟨nd, rfl⟩⟩))
     go_ret
     exact ⟨by rw [← HX.out]; (first | rfl | (simp [*]; done)), by first | exact HB1.out | exact pw_below_drewN HB.out _ | exact HB.out⟩
     | true =>
     cases fv with
      | false =>
      go_wp2_with (first | (go_at_call 26; refine HNONE.out.mono ?_; rintro e w1 ⟨rfl, rfl⟩) | (go_at_call 27; refine HREF.out.mono ?_; rintro e w1 ⟨rfl, ⟨nd, rfl⟩⟩))
      go_ret
      exact ⟨by rw [← HX.out]; (first | rfl | (simp [*]; done)), by first | exact HB1.out | exact pw_below_drewN HB.out _ | exact HB.out⟩
      | true =>
      cases e1 : (by_ == 0) with
       | false =>
       go_wp2_with (first | (go_at_call 26; refine HNONE.out.mono ?_; rintro e w1 ⟨rfl, rfl⟩) | (go_at_call 27; refine HREF.out.mono ?_; rintro e w1 ⟨rfl, ⟨nd, rfl⟩⟩))
       go_ret
       exact ⟨by rw [← HX.out]; (first | rfl | (simp [*]; done)), by first | exact HB1.out | exact pw_below_drewN HB.out _ | exact HB.out⟩
       | true =>
       go_wp2_with (first | (go_at_call 26; refine HNONE.out.mono ?_; rintro e w1 ⟨rfl, rfl⟩) | (go_at_call 27; refine HREF.out.mono ?_; rintro e w1 ⟨rfl, ⟨nd, rfl⟩⟩))
       go_ret
       exact ⟨by rw [← HX.out]; (first | rfl | (simp [*]; done)), by first | exact HB1.out | exact pw_below_drewN HB.out _ | exact HB.out⟩
   ·have f1 : (k == 1) = false := beq_eq_false_iff_ne.2 k1
    by_cases k2 : k = 2
    ·subst k2
     cases nv with
      | false =>
      go_wp2_with (first | (go_at_call 26; refine HNONE.out.mono ?_; rintro e w1 ⟨rfl, rfl⟩) | (go_at_call 27; refine HREF.out.mono ?_; rintro e w1 ⟨rfl, ⟨nd, rfl⟩⟩))
      go_ret
      exact ⟨by rw [← HX.out]; (first | rfl | (simp [*]; done)), by first | exact HB1.out | exact pw_below_drewN HB.out _ | exact HB.out⟩
      | true =>
      cases fv with
       | false =>
       go_wp2_with (first | (go_at_call 26; refine HNONE.out.mono ?_; rintro e w1 ⟨rfl, rfl⟩) | (go_at_call 27; refine HREF.out.mono ?_; rintro e w1 ⟨rfl, ⟨nd, rfl⟩⟩))
       go_ret
       exact ⟨by rw [← HX.out]; (first | rfl | (simp [*]; done)), by first | exact HB1.out | exact pw_below_drewN HB.out _ | exact HB.out⟩
       | true =>
       cases e1 : (by_ == 0) with
        | false =>
        go_wp2_with (first | (go_at_call 26; refine HNONE.out.mono ?_; rintro e w1 ⟨rfl, rfl⟩) | (go_at_call 27; refine HREF.out.mono ?_; rintro e w1 ⟨rfl, ⟨nd, rfl⟩⟩))
        go_ret
        exact ⟨by rw [← HX.out]; (first | rfl | (simp [*]; done)), by first | exact HB1.out | exact pw_below_drewN HB.out _ | exact HB.out⟩
        | true =>
        go_wp2_with (first | (go_at_call 26; refine HNONE.out.mono ?_; rintro e w1 ⟨rfl, rfl⟩) | (go_at_call 27; refine HREF.out.mono ?_; rintro e w1 ⟨rfl, ⟨nd, rfl⟩⟩))
        go_ret
        exact ⟨by rw [← HX.out]; (first | rfl | (simp [*]; done)), by first | exact HB1.out | exact pw_below_drewN HB.out _ | exact HB.out⟩
    ·have f2 : (k == 2) = false := beq_eq_false_iff_ne.2 k2
     by_cases k3 : k = 3
     ·subst k3
      cases nv with
       | false =>
       go_wp2_with (first | (go_at_call 26; refine HNONE.out.mono ?_; rintro e w1 ⟨rfl, rfl⟩) | (go_at_call 27; refine HREF.out.mono ?_; rintro e w1 ⟨rfl, ⟨nd, rfl⟩⟩))
       go_ret
       exact ⟨by rw [← HX.out]; (first | rfl | (simp [*]; done)), by first | exact HB1.out | exact pw_below_drewN HB.out _ | exact HB.out⟩
       | true =>
       cases fv with
        | false =>
        go_wp2_with (first | (go_at_call 26; refine HNONE.out.mono ?_; rintro e w1 ⟨rfl, rfl⟩) | (go_at_call 27; refine HREF.out.mono ?_; rintro e w1 ⟨rfl, ⟨nd, rfl⟩⟩))
        go_ret
        exact ⟨by rw [← HX.out]; (first | rfl | (simp [*]; done)), by first | exact HB1.out | exact pw_below_drewN HB.out _ | exact HB.out⟩
        | true =>
        cases e1 : (by_ == 0) with
         | false =>
         go_wp2_with (first | (go_at_call 26; refine HNONE.out.mono ?_; rintro e w1 ⟨rfl, rfl⟩) | (go_at_call 27; refine HREF.out.mono ?_; rintro e w1 ⟨rfl, ⟨nd, rfl⟩⟩))
         go_ret
         exact ⟨by rw [← HX.out]; (first | rfl | (simp [*]; done)), by first | exact HB1.out | exact pw_below_drewN HB.out _ | exact HB.out⟩
         | true =>
         go_wp2_with (first | (go_at_call 26; refine HNONE.out.mono ?_; rintro e w1 ⟨rfl, rfl⟩) | (go_at_call 27; refine HREF.out.mono ?_; rintro e w1 ⟨rfl, ⟨nd, rfl⟩⟩))
         go_ret
         exact ⟨by rw [← HX.out]; (first | rfl | (simp [*]; done)), by first | exact HB1.out | exact pw_below_drewN HB.out _ | exact HB.out⟩
     ·have f3 : (k == 3) = false := beq_eq_false_iff_ne.2 k3
      by_cases k4 : k = 4
      ·subst k4
       cases nv with
        | false =>
        go_wp2_with (first | (go_at_call 26; refine HNONE.out.mono ?_; rintro e w1 ⟨rfl, rfl⟩))
        go_ret
        exact ⟨by rw [← HX.out]; (first | rfl | (simp [*]; done)), by first | exact HB1.out | exact pw_below_drewN HB.out _ | exact HB.out⟩
        | true =>
        cases bv with
         | false =>
         go_wp2_with (first | (go_at_call 26; refine HNONE.out.mono ?_; rintro e w1 ⟨rfl, rfl⟩))
         go_ret
         exact ⟨by rw [← HX.out]; (first | rfl | (simp [*]; done)), by first | exact HB1.out | exact pw_below_drewN HB.out _ | exact HB.out⟩
         | true =>
         cases e1 : (by_ == 0) with
          | false =>
          go_wp2_with (first | (go_at_call 26; refine HNONE.out.mono ?_; rintro e w1 ⟨rfl, rfl⟩))
          go_ret
          exact ⟨by rw [← HX.out]; (first | rfl | (simp [*]; done)), by first | exact HB1.out | exact pw_below_drewN HB.out _ | exact HB.out⟩
          | true =>
          go_wp2_with (first | (go_at_call 26; refine HNONE.out.mono ?_; rintro e w1 ⟨rfl, rfl⟩))
          go_ret
          exact ⟨by rw [← HX.out]; (first | rfl | (simp [*]; done)), by first | exact HB1.out | exact pw_below_drewN HB.out _ | exact HB.out⟩
      ·have f4 : (k == 4) = false := beq_eq_false_iff_ne.2 k4
       by_cases k5 : k = 5
       ·subst k5
        cases nv with
         | false =>
         go_wp2_with (first | (go_at_call 26; refine HNONE.out.mono ?_; rintro e w1 ⟨rfl, rfl⟩))
         go_ret
         exact ⟨by rw [← HX.out]; (first | rfl | (simp [*]; done)), by first | exact HB1.out | exact pw_below_drewN HB.out _ | exact HB.out⟩
         | true =>
         cases bv with
          | false =>
          go_wp2_with (first | (go_at_call 26; refine HNONE.out.mono ?_; rintro e w1 ⟨rfl, rfl⟩))
          go_ret
          exact ⟨by rw [← HX.out]; (first | rfl | (simp [*]; done)), by first | exact HB1.out | exact pw_below_drewN HB.out _ | exact HB.out⟩
          | true =>
          cases e2 : decide (1 ≤ by_) with
           | false =>
           go_wp2_with (first | (go_at_call 26; refine HNONE.out.mono ?_; rintro e w1 ⟨rfl, rfl⟩))
           go_ret
           exact ⟨by rw [← HX.out]; (first | rfl | (simp [*]; done)), by first | exact HB1.out | exact pw_below_drewN HB.out _ | exact HB.out⟩
           | true =>
           cases e1 : decide (by_ ≤ 1073741823) with
            | false =>
            go_wp2_with (first | (go_at_call 26; refine HNONE.out.mono ?_; rintro e w1 ⟨rfl, rfl⟩))
            go_ret
            exact ⟨by rw [← HX.out]; (first | rfl | (simp [*]; done)), by first | exact HB1.out | exact pw_below_drewN HB.out _ | exact HB.out⟩
            | true =>
            go_wp2_with (first | (go_at_call 26; refine HNONE.out.mono ?_; rintro e w1 ⟨rfl, rfl⟩))
            go_ret
            exact ⟨by rw [← HX.out]; (first | rfl | (simp [*]; done)), by first | exact HB1.out | exact pw_below_drewN HB.out _ | exact HB.out⟩
       ·have f5 : (k == 5) = false := beq_eq_false_iff_ne.2 k5
        go_wp2_with fail
        go_ret
        exact ⟨by rw [← HX.out]; (first | rfl | (simp [*]; done)), by first | exact HB1.out | exact pw_below_drewN HB.out _ | exact HB.out⟩
theorem record_May.calls (a0_0 : Int) (a0_1 : Int) (a0_2 : Int) (a0_3 : Int) (a0_4 : Int) (a0_5 : Int) (a0_6 : Bool) (A0_7 : Option Addr) (c0_7 : Nat) (l0_7 : List Int) (a0_8 : Int) (a0_9 : Int) (a0_10 : Int) (a0_11 : Int) (r : Bool) (w : World) (hr0_7 : Kd.C (Kd.int .i64) w A0_7 l0_7.length l0_7) (hc0_7 : l0_7.length ≤ c0_7) (h : record_May.f a0_0 a0_1 a0_2 a0_3 a0_4 a0_5 a0_6 l0_7 a0_8 a0_9 a0_10 a0_11 = some r) :
  Calls Try.prog 13 #[.agg #[.int .i64 a0_0, .int .i64 a0_1, .int .i64 a0_2, .int .i64 a0_3, .int .i64 a0_4, .int .i64 a0_5, .bool a0_6, .slice A0_7 l0_7.length c0_7, .int .i64 a0_8, .int .i64 a0_9, .int .i64 a0_10, .int .i64 a0_11]] w fun e w' => e = .returned (.bool r) ∧ Below w.heap.size w w' := by
 obtain rfl := Option.some.inj h
 exact may_calls a0_0 a0_1 a0_2 a0_3 a0_4 a0_5 a0_6 A0_7 c0_7 l0_7 a0_8 a0_9 a0_10 a0_11 w hr0_7

/-! ### varint_Put: function 16 -/
def varint_Put.l0 : Nat → Int → List Int → Option (ByteArray)
  | 0, _, _ => none
  | k + 1, x3, x4 => if x3 ≥ 128 then (if x4.length < 140737488355328 then (varint_Put.l0 k (x3 / 128) (x4 ++ [Go.bits .or .u8 ((x3) % 256) 128])) else (none)) else (if x4.length < 140737488355328 then (some (strOfNums (x4 ++ [(x3) % 256]))) else (none))
def varint_Put.f (k : Nat) (a0 : Int) : Option (ByteArray) := varint_Put.l0 k (Go.bits .xor .u64 (IntKind.u64.wrap ((IntKind.u64.wrap (a0)) * 2)) (IntKind.u64.wrap (a0 / 9223372036854775808))) ([] : List Int)
theorem varint_Put.mono_l : ∀ k, (∀ y0 y1, LeO (varint_Put.l0 k y0 y1) (varint_Put.l0 (k + 1) y0 y1))
 | 0 => fun _ _ r h => by simp [varint_Put.l0] at h
 | k + 1 => by
  have ih0 := varint_Put.mono_l k
  ·intro y0 y1
   unfold varint_Put.l0
   repeat' first
    | (with_reducible exact ih0 _ _)
    | (with_reducible exact LeO.refl _)
    | (with_reducible exact LeO.none _)
    | (with_reducible refine LeO.ite ?_ ?_)
    | (with_reducible refine LeO.bind ?_ (fun _ => ?_))
    | exact ih0 _ _
    | exact LeO.none _
    | refine LeO.ite ?_ ?_
    | refine LeO.bind ?_ (fun _ => ?_)
theorem varint_Put.mono : ∀ a0 k, LeO (varint_Put.f k a0) (varint_Put.f (k + 1) a0) := by
 intro a0 k
 have ih0 := varint_Put.mono_l k
 unfold varint_Put.f
 repeat' first
    | (with_reducible exact ih0 _ _)
    | (with_reducible exact LeO.refl _)
    | (with_reducible exact LeO.none _)
    | (with_reducible refine LeO.ite ?_ ?_)
    | (with_reducible refine LeO.bind ?_ (fun _ => ?_))
    | exact ih0 _ _
    | exact LeO.none _
    | refine LeO.ite ?_ ?_
    | refine LeO.bind ?_ (fun _ => ?_)
set_option maxHeartbeats 8000000 in
set_option maxRecDepth 100000 in
theorem varint_Put.calls (k : Nat) (a0 : Int) (r : ByteArray) (w : World) (h : varint_Put.f k a0 = some r) :
  Calls Try.prog 16 #[.int .i64 a0] w fun e w' => e = .returned (.string r) ∧ Below w.heap.size w w' := by
 have HB := Aside0.mk (Below.refl w.heap.size w)
 have H : (varint_Put.l0 k (Go.bits .xor .u64 (IntKind.u64.wrap ((IntKind.u64.wrap (a0)) * 2)) (IntKind.u64.wrap (a0 / 9223372036854775808))) ([] : List Int)) = some r := h
 clear h
 have H' := Aside0.mk H
 clear H
 go_enter Try.func16, Try.ntmps16
 go_wp2
 go_loopg [3, 4] k (fun kq v3 v4 w' => ∃ (x3_1 : Int) (x4_1 : List Int), v3 = .int .u64 x3_1 ∧ Aside0 (varint_Put.l0 kq x3_1 x4_1 = some r) ∧ Aside0 (kq ≤ k) ∧ Aside0 (Kd.R (Kd.int .u8) 5 w' w.heap.size (fun _ => True) v4 x4_1) ∧ Aside0 (Below w.heap.size w w'))
 case atStart => exact ⟨(Go.bits .xor .u64 (IntKind.u64.wrap ((IntKind.u64.wrap (a0)) * 2)) (IntKind.u64.wrap (a0 / 9223372036854775808))), (([] : List Int)), (by first | rfl | (simp; done) | (simp [*]; done)), H', ⟨Nat.le_refl _⟩, ⟨by first | exact Kd.R_nil _ _ _ _ _ | exact Kd.N_nil _ _ _ _ _ | exact Kd.V_nil _ _ _ _ _ | exact Kd.Q_nil _ _ _ _ _ | exact Kd.S_nil _ _ _ _ _⟩, ⟨by repeat (first | (with_reducible first | exact HB.out | apply below_alloc | apply pw_below_drewN | apply below_drew1) | exact HB.out)⟩⟩
 case round =>
  clear H'
  try clear c1
  obtain ⟨x3_1, x4_1, rfl, HA, HK1, HO_4, HB⟩ := hrel
  cases gk with
  | zero => exact absurd HA.out (by simp [varint_Put.l0])
   | succ k1 =>
   have H := HA.out
   clear HA
   simp only [varint_Put.l0] at H
   by_cases c2 : x3_1 ≥ 128
   ·rw [if_pos c2] at H
    have c2b0 : decide (128 ≤ x3_1) = true := decide_eq_true c2
    clear c2
    by_cases c3 : x4_1.length < 140737488355328
    ·rw [if_pos c3] at H
     have LMc3 := Aside0.mk c3
     clear c3
     obtain ⟨y105, hy105⟩ : ∃ y_ : List Int, y_ = (x4_1 ++ [Go.bits .or .u8 ((x3_1) % 256) 128]) := ⟨_, rfl⟩
     replace H : (varint_Put.l0 k1 (x3_1 / 128) y105) = some r := by first | (rw [hy105]; with_reducible exact H) | (have H2_ := (Option.bind_some _ _).symm.trans H; rw [hy105]; with_reducible exact H2_) | (have H2_ := (Option.bind_some _ _).symm.trans H; with_reducible exact H2_) | with_reducible exact H | (rw [hy105]; exact H) | exact H
     have Ny105 := Aside0.mk hy105
     clear hy105
     have H' := Aside0.mk H
     clear H
     go_wp2_with (first | ((with_reducible refine gate_builtin (b := .append) (xs := #[.tmp 16, .tmp 20]) rfl ?_); at_builtin; refine Kd.R_append (Kd.int .u8) (w0 := w) w.heap.size rfl (.tmp 16) (.tmp 20) 70 5 (.int .u8 0) 1 rfl Try.underlying70 info5 rfl (by decide) (by omega) u4 x4_1 (Go.bits .or .u8 ((x3_1) % 256) 128) [.int .u8 (Go.bits .or .u8 ((x3_1) % 256) 128)] (fun _ => True) (fun _ => False) rfl rfl ?aP (fun _ hk => hk.elim) ?aF ?aO ?aB ?aS ?aL ?_; (case aP => exact rfl); (case aB => exact (by repeat (first | (with_reducible first | exact HB.out | apply below_alloc | apply pw_below_drewN | apply below_drew1) | exact HB.out))); (case aF => exact (fun _ _ => trivial)); (case aO => exact (by (with_reducible repeat (first | apply Kd.R_alloc | apply Kd.R_drewN | apply Kd.R_drew)); exact HO_4.out)); (case aS => exact (below_size (by repeat (first | (with_reducible first | exact HB.out | apply below_alloc | apply pw_below_drewN | apply below_drew1) | exact HB.out)))); (case aL => have := LMc3.out; omega); intro v106 w4 ho hb hg hat; rw [← Ny105.out] at ho; have n0_ := Aside0.mk (hb); have n1_ := Aside0.mk (ho); clear HB; clear HO_4; have HB := n0_; have HO107 := n1_; clear n0_ n1_; clear ho hb hg hat))
     go_roundg k1
     case measure => have := HK1.out; omega
     case rel => exact ⟨(x3_1 / 128), (y105), (by first | rfl | (simp; done) | (simp [*]; done)), H', ⟨by have := HK1.out; omega⟩, ⟨by (with_reducible repeat (first | apply Kd.R_alloc | apply Kd.R_drewN | apply Kd.R_drew)); exact HO107.out⟩, ⟨by repeat (first | (with_reducible first | exact HB.out | apply below_alloc | apply pw_below_drewN | apply below_drew1) | exact HB.out)⟩⟩
    ·rw [if_neg c3] at H
     exact absurd H (by simp)
   ·rw [if_neg c2] at H
    have c2b0 : decide (128 ≤ x3_1) = false := decide_eq_false c2
    clear c2
    by_cases c5 : x4_1.length < 140737488355328
    ·rw [if_pos c5] at H
     have LMc5 := Aside0.mk c5
     clear c5
     obtain ⟨y108, hy108⟩ : ∃ y_ : List Int, y_ = (x4_1 ++ [(x3_1) % 256]) := ⟨_, rfl⟩
     replace H : (some (strOfNums y108)) = some r := by first | (rw [hy108]; with_reducible exact H) | (have H2_ := (Option.bind_some _ _).symm.trans H; rw [hy108]; with_reducible exact H2_) | (have H2_ := (Option.bind_some _ _).symm.trans H; with_reducible exact H2_) | with_reducible exact H | (rw [hy108]; exact H) | exact H
     have Ny108 := Aside0.mk hy108
     clear hy108
     obtain rfl := Option.some.inj H
     go_wp2_with (first | ((with_reducible refine gate_builtin (b := .append) (xs := #[.tmp 22, .tmp 25]) rfl ?_); at_builtin; refine Kd.R_append (Kd.int .u8) (w0 := w) w.heap.size rfl (.tmp 22) (.tmp 25) 70 5 (.int .u8 0) 1 rfl Try.underlying70 info5 rfl (by decide) (by omega) u4 x4_1 ((x3_1) % 256) [.int .u8 ((x3_1) % 256)] (fun _ => True) (fun _ => False) rfl rfl ?aP (fun _ hk => hk.elim) ?aF ?aO ?aB ?aS ?aL ?_; (case aP => exact rfl); (case aB => exact (by repeat (first | (with_reducible first | exact HB.out | apply below_alloc | apply pw_below_drewN | apply below_drew1) | exact HB.out))); (case aF => exact (fun _ _ => trivial)); (case aO => exact (by (with_reducible repeat (first | apply Kd.R_alloc | apply Kd.R_drewN | apply Kd.R_drew)); exact HO_4.out)); (case aS => exact (below_size (by repeat (first | (with_reducible first | exact HB.out | apply below_alloc | apply pw_below_drewN | apply below_drew1) | exact HB.out)))); (case aL => have := LMc5.out; omega); intro v109 w6 ho hb hg hat; rw [← Ny108.out] at ho; have n0_ := Aside0.mk (hb); have n1_ := Aside0.mk (ho); clear HB; clear HO_4; have HB := n0_; have HO110 := n1_; clear n0_ n1_; clear ho hb hg hat; have hcv7 := own_string (P := Try.prog) Try.underlying70 Try.underlying5 Try.underlying9 (Kd.own_of_R HO110.out)))
     go_ret
     exact ⟨by first | rfl | (simp [errW_none, errW_some] <;> rfl) | (simp [*, errW_none, errW_some] <;> rfl), by repeat (first | (with_reducible first | exact HB.out | apply below_alloc | apply pw_below_drewN | apply below_drew1) | exact HB.out)⟩
    ·rw [if_neg c5] at H
     exact absurd H (by simp)

/-! ### varint_All: function 17 -/
def varint_All.l0 : Nat → ByteArray → List Int → Int → Int → Option (ByteArray)
  | 0, _, _, _, _ => none
  | k + 1, x3, x6, x7, x8 => if x8 < x7 then (if 0 ≤ x8 then (if x8 < (x6.length : Int) then ((varint_Put.f k (rd x6 x8)).bind fun t112 => (if x3.size + t112.size ≤ 9223372036854775807 then (varint_All.l0 k (x3 ++ t112) x6 x7 (wrap64 (x8 + 1))) else (none))) else (none)) else (none)) else (some x3)
def varint_All.f (k : Nat) (l0 : List Int) : Option (ByteArray) := varint_All.l0 k (⟨#[]⟩ : ByteArray) l0 (l0.length : Int) 0
theorem varint_All.mono_l : ∀ k, (∀ y0 y1 y2 y3, LeO (varint_All.l0 k y0 y1 y2 y3) (varint_All.l0 (k + 1) y0 y1 y2 y3))
 | 0 => fun _ _ _ _ r h => by simp [varint_All.l0] at h
 | k + 1 => by
  have ih0 := varint_All.mono_l k
  ·intro y0 y1 y2 y3
   unfold varint_All.l0
   repeat' first
    | (with_reducible exact ih0 _ _ _ _)
    | (with_reducible exact varint_Put.mono _ _)
    | (with_reducible exact LeO.refl _)
    | (with_reducible exact LeO.none _)
    | (with_reducible refine LeO.ite ?_ ?_)
    | (with_reducible refine LeO.bind ?_ (fun _ => ?_))
    | exact ih0 _ _ _ _
    | exact varint_Put.mono _ _
    | exact LeO.none _
    | refine LeO.ite ?_ ?_
    | refine LeO.bind ?_ (fun _ => ?_)
theorem varint_All.mono : ∀ a0 k, LeO (varint_All.f k a0) (varint_All.f (k + 1) a0) := by
 intro a0 k
 have ih0 := varint_All.mono_l k
 unfold varint_All.f
 repeat' first
    | (with_reducible exact ih0 _ _ _ _)
    | (with_reducible exact varint_Put.mono _ _)
    | (with_reducible exact LeO.refl _)
    | (with_reducible exact LeO.none _)
    | (with_reducible refine LeO.ite ?_ ?_)
    | (with_reducible refine LeO.bind ?_ (fun _ => ?_))
    | exact ih0 _ _ _ _
    | exact varint_Put.mono _ _
    | exact LeO.none _
    | refine LeO.ite ?_ ?_
    | refine LeO.bind ?_ (fun _ => ?_)
set_option maxHeartbeats 8000000 in
set_option maxRecDepth 100000 in
theorem varint_All.calls (k : Nat) (A0 : Option Addr) (c0 : Nat) (l0 : List Int) (r : ByteArray) (w : World) (hr0 : Kd.C (Kd.int .i64) w A0 l0.length l0) (hc0 : l0.length ≤ c0) (h : varint_All.f k l0 = some r) :
  Calls Try.prog 17 #[.slice A0 l0.length c0] w fun e w' => e = .returned (.string r) ∧ Below w.heap.size w w' := by
 have HR0 := Aside0.mk hr0
 have HC0 := Aside0.mk hc0
 clear hr0 hc0
 have HB := Aside0.mk (Below.refl w.heap.size w)
 have H : (varint_All.l0 k (⟨#[]⟩ : ByteArray) l0 (l0.length : Int) 0) = some r := h
 clear h
 have H' := Aside0.mk H
 clear H
 go_enter Try.func17, Try.ntmps17
 go_wp2
 go_loopg [3, 8] k (fun kq v3 v8 w' => ∃ (x3_1 : ByteArray) (x8_1 : Int), v3 = .string x3_1 ∧ v8 = .int .i64 x8_1 ∧ Aside0 (varint_All.l0 kq x3_1 l0 (l0.length : Int) x8_1 = some r) ∧ Aside0 (kq ≤ k) ∧ Aside0 (Below w.heap.size w w'))
 case atStart => exact ⟨((⟨#[]⟩ : ByteArray)), (0), (by first | rfl | (simp; done) | (simp [*]; done)), (by first | rfl | (simp; done) | (simp [*]; done)), H', ⟨Nat.le_refl _⟩, ⟨by repeat (first | (with_reducible first | exact HB.out | apply below_alloc | apply pw_below_drewN | apply below_drew1) | exact HB.out)⟩⟩
 case round =>
  clear H'
  try clear c1
  obtain ⟨x3_1, x8_1, rfl, rfl, HA, HK1, HB⟩ := hrel
  cases gk with
  | zero => exact absurd HA.out (by simp [varint_All.l0])
   | succ k1 =>
   have H := HA.out
   clear HA
   simp only [varint_All.l0] at H
   by_cases c2 : x8_1 < (l0.length : Int)
   ·rw [if_pos c2] at H
    have c2b0 : decide (x8_1 < (l0.length : Int)) = true := decide_eq_true c2
    clear c2
    by_cases c3 : 0 ≤ x8_1
    ·rw [if_pos c3] at H
     have c3b0 : decide (0 ≤ x8_1) = true := decide_eq_true c3
     clear c3
     by_cases c4 : x8_1 < (l0.length : Int)
     ·rw [if_pos c4] at H
      have c4b0 : decide (x8_1 < (l0.length : Int)) = true := decide_eq_true c4
      clear c4
      replace H := Option.bind_eq_some_iff.mp H
      obtain ⟨t112, A50, H⟩ := H
      replace H : (if x3_1.size + t112.size ≤ 9223372036854775807 then (varint_All.l0 k1 (x3_1 ++ t112) l0 (l0.length : Int) (wrap64 (x8_1 + 1))) else (none)) = some r := H
      have A5 := Aside0.mk A50
      clear A50
      by_cases c6 : x3_1.size + t112.size ≤ 9223372036854775807
      ·rw [if_pos c6] at H
       have c6b0 := eq_true c6
       have c6b1 : decide (x3_1.size + t112.size ≤ 9223372036854775807) = true := decide_eq_true c6
       try (have c6b3 := eq_false (Nat.not_lt.2 c6); simp only [ByteArray.size_append] at c6b3)
       try (have c6s := c6; simp at c6s; have c6b4 := eq_false (Nat.not_lt.2 c6s); clear c6s)
       try have c6b2 : (9223372036854775807 < x3_1.size + t112.size) = False := eq_false (Nat.not_lt.2 c6)
       have H' := Aside0.mk H
       clear H
       have p111 : 0 ≤ (x8_1 : Int) := of_decide_eq_true (by first | (with_reducible assumption) | assumption)
       have q111 : x8_1 < (l0.length : Int) := of_decide_eq_true (by first | (with_reducible assumption) | assumption)
       obtain ⟨ad111, e111, hx111_0⟩ := Kd.at_int HR0.out x8_1 p111 q111
       cases e111
       replace hx111_0 := (HB.out.cell (World.block_lt_of_cell? w _ hx111_0)).trans hx111_0
       replace p111 := eq_true p111
       replace q111 := eq_true q111
       go_wp2_with (first | ((with_reducible refine gate_callee (f := 16) rfl ?_); refine goesL_ (some 14) rfl rfl Try.func16 (by kernel_rfl) rfl #[.int .i64 (rd l0 x8_1)] rfl (by (try simp only [List.map_toArray, List.map_cons, List.map_nil]); first | done | rfl | (simp only [List.length_drop, List.length_take]; rfl)) ?_; (with_reducible refine (varint_Put.calls k1 (rd l0 x8_1) t112 _ A5.out).mono ?_); rintro e w7 ⟨rfl, hb⟩; refine ⟨_, rfl, ?_⟩; have n0_ := Aside0.mk (below_step (by repeat (first | (with_reducible first | exact HB.out | apply below_alloc | apply pw_below_drewN | apply below_drew1) | exact HB.out)) hb); clear HB; have HB := n0_; clear n0_; (try clear hb); (try clear hb2); (try clear hk); (try clear hi)))
       go_roundg k1
       case measure => have := HK1.out; omega
       case rel => exact ⟨(x3_1 ++ t112), (wrap64 (x8_1 + 1)), (by first | rfl | (simp; done) | (simp [*]; done)), (by first | rfl | (simp; done) | (simp [*]; done)), H', ⟨by have := HK1.out; omega⟩, ⟨by repeat (first | (with_reducible first | exact HB.out | apply below_alloc | apply pw_below_drewN | apply below_drew1) | exact HB.out)⟩⟩
      ·rw [if_neg c6] at H
       exact absurd H (by simp)
     ·rw [if_neg c4] at H
      exact absurd H (by simp)
    ·rw [if_neg c3] at H
     exact absurd H (by simp)
   ·rw [if_neg c2] at H
    have c2b0 : decide (x8_1 < (l0.length : Int)) = false := decide_eq_false c2
    clear c2
    obtain rfl := Option.some.inj H
    go_wp2
    go_ret
    exact ⟨by first | rfl | (simp [errW_none, errW_some] <;> rfl) | (simp [*, errW_none, errW_some] <;> rfl), by repeat (first | (with_reducible first | exact HB.out | apply below_alloc | apply pw_below_drewN | apply below_drew1) | exact HB.out)⟩

/-! ### record_over: function 18 -/
def record_over.f (a0 : Bool) : Option (Int) := if a0 = true then (some 1) else (some 0)
set_option maxHeartbeats 8000000 in
set_option maxRecDepth 100000 in
theorem record_over.calls (a0 : Bool) (r : Int) (w : World) (h : record_over.f a0 = some r) :
  Calls Try.prog 18 #[.bool a0] w fun e w' => e = .returned (.int .i64 r) ∧ Drawn0 w w' := by
 have H : (if a0 = true then (some 1) else (some 0)) = some r := h
 clear h
 by_cases c2 : a0 = true
 ·subst c2
  have H1 : (some 1) = some r := by rw [if_pos rfl] at H; exact H
  clear H
  have H := H1
  clear H1
  obtain rfl := Option.some.inj H
  go_enter Try.func18, Try.ntmps18
  go_wp2
  go_ret
  exact ⟨by first | rfl | (simp; done) | (simp [*]; done), by repeat (first | exact Drawn0.refl _ | apply Drawn0.step)⟩
 ·replace c2 := Bool.eq_false_iff.mpr c2
  subst c2
  have H1 : (some 0) = some r := by rw [if_neg (show ¬ (false = true) by decide)] at H; exact H
  clear H
  have H := H1
  clear H1
  obtain rfl := Option.some.inj H
  go_enter Try.func18, Try.ntmps18
  go_wp2
  go_ret
  exact ⟨by first | rfl | (simp; done) | (simp [*]; done), by repeat (first | exact Drawn0.refl _ | apply Drawn0.step)⟩

end Go.Proofs.Ytikfpihapdabfaa.QRecords
