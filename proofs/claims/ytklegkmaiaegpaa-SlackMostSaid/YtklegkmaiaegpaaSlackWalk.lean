/- The walks of what the laws of folder 16 call: lateness, times, the two slacks, each function once. No condition beyond the bounds that stand. -/
import Derived.Test.YtklegkmaiaegpaaProg
import Derived.Test.YtklegkmaiaegpaaWMore
import Derived.WalkKit
import Derived.Deep.QuietTactic
import Derived.BigQuiet
import Derived.StillTailTactics
import Derived.WalkLawsBesides
import Derived.Lib.Hide
namespace Go.Proofs.Ytklegkmaiaegpaa.SlackW
open Go.RowKit Go.Proofs.YtklegkmaiaegpaaW.PrintWords Go.Proofs.YtklegkmaiaegpaaW.PrintLast Go.Proofs.YtklegkmaiaegpaaW.PrintMore
attribute [local go_sem] max2_int min2_int max_two min_two max_three min_three max_four min_four
set_option linter.unusedVariables false
theorem num_calls (a : Int) (w : World) : Calls Try.prog 10 #[.int .i64 a] w fun e w' => e = .returned (.int .i64 a) ∧ w = w' := by
  go_enter Try.func10, Try.ntmps10
  go_wp2
  go_ret
  exact ⟨rfl, rfl⟩
theorem late_yes (a : Int) (h0 : 0 ≤ a) (h1 : a ≤ 1073741824) (w : World) : Calls Try.prog 15 #[.int .i64 a] w fun e w' => e = .returned (.bool true) ∧ w = w' := by
  go_enter Try.func15, Try.ntmps15
  go_wp2
  go_ret
  exact ⟨rfl, rfl⟩
theorem late_no (a : Int) (h : a < 0 ∨ 1073741824 < a) (w : World) : Calls Try.prog 15 #[.int .i64 a] w fun e w' => e = .returned (.bool false) ∧ w = w' := by
  rcases h with h | h
  · go_enter Try.func15, Try.ntmps15
    go_wp2
    go_ret
    exact ⟨rfl, rfl⟩
  · have h0 : 0 ≤ a := by omega
    have h1 : decide (a ≤ 1073741824) = false := decide_eq_false (by omega)
    go_enter Try.func15, Try.ntmps15
    go_wp2
    go_ret
    exact ⟨rfl, rfl⟩
theorem time_yes (a : Int) (h0 : -1099511627776 ≤ a) (h1 : a ≤ 1099511627776) (w : World) : Calls Try.prog 16 #[.int .i64 a] w fun e w' => e = .returned (.bool true) ∧ w = w' := by
  go_enter Try.func16, Try.ntmps16
  go_wp2
  go_ret
  exact ⟨rfl, rfl⟩
theorem time_no (a : Int) (h : a < -1099511627776 ∨ 1099511627776 < a) (w : World) : Calls Try.prog 16 #[.int .i64 a] w fun e w' => e = .returned (.bool false) ∧ w = w' := by
  rcases h with h | h
  · go_enter Try.func16, Try.ntmps16
    go_wp2
    go_ret
    exact ⟨rfl, rfl⟩
  · have h0 : -1099511627776 ≤ a := by omega
    have h1 : decide (a ≤ 1099511627776) = false := decide_eq_false (by omega)
    go_enter Try.func16, Try.ntmps16
    go_wp2
    go_ret
    exact ⟨rfl, rfl⟩
theorem with_yes (a : Int) (h0 : -1099511627776 ≤ a) (h1 : a ≤ 1099511627776) (w : World) : Calls Try.prog 17 #[.int .i64 a, .int .i64 1099511627776] w fun e w' => e = .returned (.bool true) ∧ w = w' := by
  go_enter Try.func17, Try.ntmps17
  go_wp2
  go_ret
  exact ⟨rfl, rfl⟩
theorem with_no (a : Int) (h : a < -1099511627776 ∨ 1099511627776 < a) (w : World) : Calls Try.prog 17 #[.int .i64 a, .int .i64 1099511627776] w fun e w' => e = .returned (.bool false) ∧ w = w' := by
  rcases h with h | h
  · go_enter Try.func17, Try.ntmps17
    go_wp2
    go_ret
    exact ⟨rfl, rfl⟩
  · have h0 : -1099511627776 ≤ a := by omega
    have h1 : decide (a ≤ 1099511627776) = false := decide_eq_false (by omega)
    go_enter Try.func17, Try.ntmps17
    go_wp2
    go_ret
    exact ⟨rfl, rfl⟩
theorem new_no (a : Int) (h : a < 0 ∨ 1073741824 < a) (w : World) : Calls Try.prog 6 #[.int .i64 a] w fun e w' => e = .returned (.tuple #[.pointer none, .int .i64 1600]) ∧ w = w' := by
  have H := Lib.hid h
  clear h
  go_enter Try.func6, Try.ntmps6
  go_wp2_with (go_at_call 15; (with_reducible refine (late_no a H.out _).mono ?_); rintro e w' ⟨rfl, rfl⟩)
  go_ret2
  exact ⟨rfl, rfl⟩
theorem rnew_no (a : Int) (h : a < 0 ∨ 1073741824 < a) (w : World) : Calls Try.prog 7 #[.int .i64 a] w fun e w' => e = .returned (.tuple #[.pointer none, .int .i64 1600]) ∧ w = w' := by
  rcases h with h | h
  all_goals
    go_enter Try.func7, Try.ntmps7
    go_wp2
    go_ret2
    exact ⟨rfl, rfl⟩
/-- The block of a slack. -/
def SB (T : TypeId) (late : Int) (any : Bool) (high k : Int) : Obj := .cells #[.int .i64 late, .bool any, .int .i64 high, .int .i64 k] T (0, 0)
theorem new_yes (a : Int) (h0 : 0 ≤ a) (h1 : a ≤ 1073741824) (w : World) : Calls Try.prog 6 #[.int .i64 a] w fun e w' => e = .returned (.tuple #[.pointer (some ⟨w.heap.size, 0, none⟩), .int .i64 0]) ∧ w.alloc (SB 43 a false 0 0) = w' := by
  go_enter Try.func6, Try.ntmps6
  go_wp2_with (go_at_call 15; (with_reducible refine (late_yes a h0 h1 _).mono ?_); rintro e w' ⟨rfl, rfl⟩)
  go_ret2
  exact ⟨rfl, rfl⟩
theorem rnew_yes (a : Int) (h0 : 0 ≤ a) (h1 : a ≤ 1073741824) (w : World) : Calls Try.prog 7 #[.int .i64 a] w fun e w' => e = .returned (.tuple #[.pointer (some ⟨w.heap.size, 0, none⟩), .int .i64 0]) ∧ w.alloc (SB 37 a false 0 0) = w' := by
  go_enter Try.func7, Try.ntmps7
  go_wp2
  go_ret2
  exact ⟨rfl, rfl⟩
/-- The block g of a world has turned to o, nothing else. -/
structure Turned (g : Nat) (o : Obj) (w w' : World) : Prop where
  at_ : w'.heap[g]? = some o
  os : w'.os = w.os
  tape : w'.tape = w.tape
  output : w'.output = w.output
  size : w'.heap.size = w.heap.size
  far : ∀ k, k ≠ g → w'.heap[k]? = w.heap[k]?
theorem Turned.refl {g : Nat} {o : Obj} {w : World} (h : w.heap[g]? = some o) : Turned g o w w := ⟨h, rfl, rfl, rfl, rfl, fun _ _ => rfl⟩
theorem Turned.trans {g : Nat} {o o' : Obj} {w w1 w2 : World} (h : Turned g o w w1) (h' : Turned g o' w1 w2) : Turned g o' w w2 :=
  ⟨h'.at_, h'.os.trans h.os, h'.tape.trans h.tape, h'.output.trans h.output, h'.size.trans h.size, fun k hk => (h'.far k hk).trans (h.far k hk)⟩
theorem Turned.drew {g : Nat} {o : Obj} {w w1 : World} (h : Turned g o w w1) : Turned g o w w1.drew := ⟨h.at_, h.os, h.tape, h.output, h.size, h.far⟩
theorem Turned.drewN {g : Nat} {o : Obj} {w w1 : World} (h : Turned g o w w1) (n : Nat) : Turned g o w (w1.drewN n) := ⟨h.at_, h.os, h.tape, h.output, h.size, h.far⟩
theorem Turned.set {g T : Nat} {cs : Array Value} {w : World} (h : w.heap[g]? = some (.cells cs T (0, 0))) (i : Nat) (v : Value) : Turned g (.cells (cs.setIfInBounds i v) T (0, 0)) w (w.setCell ⟨g, i, none⟩ v) :=
  ⟨blk_set h i v, rfl, rfl, rfl, by simp [World.setCell], fun k hk => Below.heap_setCell w ⟨g, i, none⟩ v k hk⟩
theorem Turned.below {g : Nat} {o : Obj} {w w' : World} (h : Turned g o w w') {B : Nat} (hB : B ≤ g) : Below B w w' :=
  ⟨h.os, h.tape, h.output, Nat.le_of_eq h.size.symm, fun k hk => h.far k (by omega)⟩
/-- What a call of See ends in. -/
def SeeEnd (T g : Nat) (late high k : Int) (w : World) (e : Ending) (w' : World) : Prop := e = .returned (.int .i64 0) ∧ Turned g (SB T late true high k) w w'
theorem see_no (g : Nat) (t : Int) (h : t < -1099511627776 ∨ 1099511627776 < t) (w : World) :
    Calls Try.prog 12 #[.pointer (some ⟨g, 0, none⟩), .int .i64 t] w fun e w' => e = .returned (.int .i64 1600) ∧ w = w' := by
  have H := Lib.hid h
  clear h
  go_enter Try.func12, Try.ntmps12
  go_wp2_with (go_at_call 16; (with_reducible refine (time_no t H.out _).mono ?_); rintro e w' ⟨rfl, rfl⟩)
  go_ret
  exact ⟨rfl, rfl⟩
theorem rsee_no (g : Nat) (t : Int) (h : t < -1099511627776 ∨ 1099511627776 < t) (w : World) :
    Calls Try.prog 13 #[.pointer (some ⟨g, 0, none⟩), .int .i64 t] w fun e w' => e = .returned (.int .i64 1600) ∧ w = w' := by
  have H := Lib.hid h
  clear h
  go_enter Try.func13, Try.ntmps13
  go_wp2_with (go_at_call 17; (with_reducible refine (with_no t H.out _).mono ?_); rintro e w' ⟨rfl, rfl⟩)
  go_ret
  exact ⟨rfl, rfl⟩
theorem k_calls (g : Nat) (late : Int) (any : Bool) (high k : Int) (w : World) (hg : w.heap[g]? = some (SB 43 late any high k)) :
    Calls Try.prog 14 #[.pointer (some ⟨g, 0, none⟩)] w fun e w' => e = .returned (.int .i64 k) ∧ w = w' := by
  have h3 := blk_cell hg 3
  simp at h3
  clear hg
  go_enter Try.func14, Try.ntmps14
  go_wp2
  go_ret
  exact ⟨rfl, rfl⟩
set_option maxHeartbeats 1000000 in
theorem see_stay (g : Nat) (late : Int) (high k t : Int) (h0 : -1099511627776 ≤ t) (h1 : t ≤ 1099511627776) (h2 : t ≤ high) (h3 : high ≤ 1099511627776) (hl0 : 0 ≤ late) (hl1 : late ≤ 1073741824) (hk0 : 0 ≤ k) (hk1 : k ≤ 1073741824)
    (k' : Int) (hk' : Aside0 (k' = max k (min (high - t) late))) (w : World) (hg : Aside0 (w.heap[g]? = some (SB 43 late true high k))) :
    Calls Try.prog 12 #[.pointer (some ⟨g, 0, none⟩), .int .i64 t] w (SeeEnd 43 g late high k' w) := by
  have hd := decide_eq_false (show ¬ high < t by omega)
  have c1 := blk_cell hg.out 1
  have c2 := blk_cell hg.out 2
  simp at c1 c2
  go_enter Try.func12, Try.ntmps12
  go_wp2_with (go_at_call 16; (with_reducible refine (time_yes t h0 h1 _).mono ?_); rintro e w' ⟨rfl, rfl⟩)
  clear c1 c2 hd
  have HT := Aside0.mk (Turned.refl hg.out)
  have hwr : IntKind.i64.wrap (high - t) = high - t := IntWalk.i64_in _ (by omega)
  have c0 := blk_cell HT.out.at_ 0
  have c2 := blk_cell HT.out.at_ 2
  have c3 := blk_cell HT.out.at_ 3
  have f3 := blk_frozen HT.out.at_ 3
  (try simp only [SB] at c0 c2 c3)
  (try simp at c0 c2 c3)
  replace HT := Aside0.mk HT.out.drew
  go_still_tail 17, (by kernel_rfl)
  change wpList _ _ _ _ _ w.drew
  have c0 : w.drew.cell? ⟨g, 0, none⟩ = _ := c0
  have c2 : w.drew.cell? ⟨g, 2, none⟩ = _ := c2
  have c3 : w.drew.cell? ⟨g, 3, none⟩ = _ := c3
  have f3 : w.drew.frozen? ⟨g, 3, none⟩ = _ := f3
  generalize w.drew = W2 at *
  have hcase : ((late < high - t ∧ k < late) ∨ (late < high - t ∧ late ≤ k)) ∨ ((high - t ≤ late ∧ k < high - t) ∨ (high - t ≤ late ∧ high - t ≤ k)) := by omega
  rcases hcase with (⟨q1, q2⟩ | ⟨q1, q2⟩) | (⟨q1, q2⟩ | ⟨q1, q2⟩)
  · go_wp2
    go_ret
    have h4 := HT.out.trans (Turned.set HT.out.at_ 3 (.int .i64 (late)))
    simp at h4
    exact ⟨rfl, by have e4 := hk'.out; rw [show k' = late from by omega]; exact h4⟩
  · go_wp2
    go_ret
    have h4 := HT.out.trans (Turned.set HT.out.at_ 3 (.int .i64 (k)))
    simp at h4
    exact ⟨rfl, by have e4 := hk'.out; rw [show k' = k from by omega]; exact h4⟩
  · go_wp2
    go_ret
    have h4 := HT.out.trans (Turned.set HT.out.at_ 3 (.int .i64 (high - t)))
    simp at h4
    exact ⟨rfl, by have e4 := hk'.out; rw [show k' = high - t from by omega]; exact h4⟩
  · go_wp2
    go_ret
    have h4 := HT.out.trans (Turned.set HT.out.at_ 3 (.int .i64 (k)))
    simp at h4
    exact ⟨rfl, by have e4 := hk'.out; rw [show k' = k from by omega]; exact h4⟩
set_option maxHeartbeats 1000000 in
theorem see_first (g : Nat) (late : Int) (high k t : Int) (h0 : -1099511627776 ≤ t) (h1 : t ≤ 1099511627776) (hl0 : 0 ≤ late) (hl1 : late ≤ 1073741824) (hk0 : 0 ≤ k) (hk1 : k ≤ 1073741824)
    (w : World) (hg : Aside0 (w.heap[g]? = some (SB 43 late false high k))) :
    Calls Try.prog 12 #[.pointer (some ⟨g, 0, none⟩), .int .i64 t] w (SeeEnd 43 g late t k w) := by
  have c1 := blk_cell hg.out 1
  have c2 := blk_cell hg.out 2
  have f1 := blk_frozen hg.out 1
  have f2 := blk_frozen hg.out 2
  simp at c1 c2
  go_enter Try.func12, Try.ntmps12
  go_wp2_with (go_at_call 16; (with_reducible refine (time_yes t h0 h1 _).mono ?_); rintro e w' ⟨rfl, rfl⟩)
  have TS := (Turned.set hg.out 1 (.bool true)).trans (Turned.set (Turned.set hg.out 1 (.bool true)).at_ 2 (.int .i64 t))
  clear f1 f2 c1 c2
  generalize (w.setCell ⟨g, 1, none⟩ (.bool true)).setCell ⟨g, 2, none⟩ (.int .i64 t) = W at *
  simp at TS
  obtain ⟨hi_, hh⟩ : ∃ hi_ : Int, hi_ = t := ⟨t, rfl⟩
  rw [← hh] at TS
  have hh1 : t ≤ hi_ := by omega
  have hh2 : hi_ ≤ 1099511627776 := by omega
  have HZ := Aside0.mk hh
  clear hh
  have HT := Aside0.mk TS
  have hwr : IntKind.i64.wrap (hi_ - t) = hi_ - t := IntWalk.i64_in _ (by omega)
  have c0 := blk_cell HT.out.at_ 0
  have c2 := blk_cell HT.out.at_ 2
  have c3 := blk_cell HT.out.at_ 3
  have f3 := blk_frozen HT.out.at_ 3
  (try simp only [SB] at c0 c2 c3)
  (try simp at c0 c2 c3)
  replace HT := Aside0.mk HT.out.drew
  go_still_tail 17, (by kernel_rfl)
  change wpList _ _ _ _ _ W.drew
  have c0 : W.drew.cell? ⟨g, 0, none⟩ = _ := c0
  have c2 : W.drew.cell? ⟨g, 2, none⟩ = _ := c2
  have c3 : W.drew.cell? ⟨g, 3, none⟩ = _ := c3
  have f3 : W.drew.frozen? ⟨g, 3, none⟩ = _ := f3
  generalize W.drew = W2 at *
  have q1 : hi_ - t ≤ late := by have := HZ.out; omega
  have q2 : hi_ - t ≤ k := by have := HZ.out; omega
  go_wp2
  go_ret
  have h4 := HT.out.trans (Turned.set HT.out.at_ 3 (.int .i64 k))
  simp at h4
  exact ⟨rfl, by rw [← HZ.out]; exact h4⟩
set_option maxHeartbeats 1000000 in
theorem see_up (g : Nat) (late : Int) (high k t : Int) (h0 : -1099511627776 ≤ t) (h1 : t ≤ 1099511627776) (h2 : high < t) (hl0 : 0 ≤ late) (hl1 : late ≤ 1073741824) (hk0 : 0 ≤ k) (hk1 : k ≤ 1073741824)
    (w : World) (hg : Aside0 (w.heap[g]? = some (SB 43 late true high k))) :
    Calls Try.prog 12 #[.pointer (some ⟨g, 0, none⟩), .int .i64 t] w (SeeEnd 43 g late t k w) := by
  have hd := decide_eq_true h2
  have c1 := blk_cell hg.out 1
  have c2 := blk_cell hg.out 2
  have f1 := blk_frozen hg.out 1
  have f2 := blk_frozen hg.out 2
  simp at c1 c2
  go_enter Try.func12, Try.ntmps12
  go_wp2_with (go_at_call 16; (with_reducible refine (time_yes t h0 h1 _).mono ?_); rintro e w' ⟨rfl, rfl⟩)
  have TS := (Turned.set hg.out 1 (.bool true)).trans (Turned.set (Turned.set hg.out 1 (.bool true)).at_ 2 (.int .i64 t))
  clear f1 f2 c1 c2 hd
  generalize (w.setCell ⟨g, 1, none⟩ (.bool true)).setCell ⟨g, 2, none⟩ (.int .i64 t) = W at *
  simp at TS
  obtain ⟨hi_, hh⟩ : ∃ hi_ : Int, hi_ = t := ⟨t, rfl⟩
  rw [← hh] at TS
  have hh1 : t ≤ hi_ := by omega
  have hh2 : hi_ ≤ 1099511627776 := by omega
  have HZ := Aside0.mk hh
  clear hh
  have HT := Aside0.mk TS
  have hwr : IntKind.i64.wrap (hi_ - t) = hi_ - t := IntWalk.i64_in _ (by omega)
  have c0 := blk_cell HT.out.at_ 0
  have c2 := blk_cell HT.out.at_ 2
  have c3 := blk_cell HT.out.at_ 3
  have f3 := blk_frozen HT.out.at_ 3
  (try simp only [SB] at c0 c2 c3)
  (try simp at c0 c2 c3)
  replace HT := Aside0.mk HT.out.drew
  go_still_tail 17, (by kernel_rfl)
  change wpList _ _ _ _ _ W.drew
  have c0 : W.drew.cell? ⟨g, 0, none⟩ = _ := c0
  have c2 : W.drew.cell? ⟨g, 2, none⟩ = _ := c2
  have c3 : W.drew.cell? ⟨g, 3, none⟩ = _ := c3
  have f3 : W.drew.frozen? ⟨g, 3, none⟩ = _ := f3
  generalize W.drew = W2 at *
  have q1 : hi_ - t ≤ late := by have := HZ.out; omega
  have q2 : hi_ - t ≤ k := by have := HZ.out; omega
  go_wp2
  go_ret
  have h4 := HT.out.trans (Turned.set HT.out.at_ 3 (.int .i64 k))
  simp at h4
  exact ⟨rfl, by rw [← HZ.out]; exact h4⟩
set_option maxHeartbeats 1000000 in
theorem rsee_stay (g : Nat) (late : Int) (high k t : Int) (h0 : -1099511627776 ≤ t) (h1 : t ≤ 1099511627776) (h2 : t ≤ high) (h3 : high ≤ 1099511627776) (hl0 : 0 ≤ late) (hl1 : late ≤ 1073741824) (hk0 : 0 ≤ k) (hk1 : k ≤ 1073741824)
    (k' : Int) (hk' : Aside0 (k' = max k (min (high - t) late))) (w : World) (hg : Aside0 (w.heap[g]? = some (SB 37 late true high k))) :
    Calls Try.prog 13 #[.pointer (some ⟨g, 0, none⟩), .int .i64 t] w (SeeEnd 37 g late high k' w) := by
  have hd := decide_eq_false (show ¬ high < t by omega)
  have c1 := blk_cell hg.out 1
  have c2 := blk_cell hg.out 2
  have f1 := blk_frozen hg.out 1
  simp at c1 c2
  go_enter Try.func13, Try.ntmps13
  go_wp2_with (go_at_call 17; (with_reducible refine (with_yes t h0 h1 _).mono ?_); rintro e w' ⟨rfl, rfl⟩)
  clear c1 c2 hd
  have TS := Turned.set hg.out 1 (.bool true)
  clear f1
  generalize w.setCell ⟨g, 1, none⟩ (.bool true) = W at *
  simp at TS
  have HT := Aside0.mk TS
  have hwr : IntKind.i64.wrap (high - t) = high - t := IntWalk.i64_in _ (by omega)
  have c0 := blk_cell HT.out.at_ 0
  have c2 := blk_cell HT.out.at_ 2
  have c3 := blk_cell HT.out.at_ 3
  have f3 := blk_frozen HT.out.at_ 3
  (try simp only [SB] at c0 c2 c3)
  (try simp at c0 c2 c3)
  replace HT := Aside0.mk HT.out.drew
  go_still_tail 17, (by kernel_rfl)
  change wpList _ _ _ _ _ W.drew
  have c0 : W.drew.cell? ⟨g, 0, none⟩ = _ := c0
  have c2 : W.drew.cell? ⟨g, 2, none⟩ = _ := c2
  have c3 : W.drew.cell? ⟨g, 3, none⟩ = _ := c3
  have f3 : W.drew.frozen? ⟨g, 3, none⟩ = _ := f3
  generalize W.drew = W2 at *
  have hcase : ((late < high - t ∧ k < late) ∨ (late < high - t ∧ late ≤ k)) ∨ ((high - t ≤ late ∧ k < high - t) ∨ (high - t ≤ late ∧ high - t ≤ k)) := by omega
  rcases hcase with (⟨q1, q2⟩ | ⟨q1, q2⟩) | (⟨q1, q2⟩ | ⟨q1, q2⟩)
  · go_wp2
    go_ret
    have h4 := HT.out.trans (Turned.set HT.out.at_ 3 (.int .i64 (late)))
    simp at h4
    exact ⟨rfl, by have e4 := hk'.out; rw [show k' = late from by omega]; exact h4⟩
  · go_wp2
    go_ret
    have h4 := HT.out.trans (Turned.set HT.out.at_ 3 (.int .i64 (k)))
    simp at h4
    exact ⟨rfl, by have e4 := hk'.out; rw [show k' = k from by omega]; exact h4⟩
  · go_wp2
    go_ret
    have h4 := HT.out.trans (Turned.set HT.out.at_ 3 (.int .i64 (high - t)))
    simp at h4
    exact ⟨rfl, by have e4 := hk'.out; rw [show k' = high - t from by omega]; exact h4⟩
  · go_wp2
    go_ret
    have h4 := HT.out.trans (Turned.set HT.out.at_ 3 (.int .i64 (k)))
    simp at h4
    exact ⟨rfl, by have e4 := hk'.out; rw [show k' = k from by omega]; exact h4⟩
set_option maxHeartbeats 1000000 in
theorem rsee_first (g : Nat) (late : Int) (high k t : Int) (h0 : -1099511627776 ≤ t) (h1 : t ≤ 1099511627776) (hl0 : 0 ≤ late) (hl1 : late ≤ 1073741824) (hk0 : 0 ≤ k) (hk1 : k ≤ 1073741824)
    (w : World) (hg : Aside0 (w.heap[g]? = some (SB 37 late false high k))) :
    Calls Try.prog 13 #[.pointer (some ⟨g, 0, none⟩), .int .i64 t] w (SeeEnd 37 g late t k w) := by
  have c1 := blk_cell hg.out 1
  have c2 := blk_cell hg.out 2
  have f1 := blk_frozen hg.out 1
  have f2 := blk_frozen hg.out 2
  simp at c1 c2
  go_enter Try.func13, Try.ntmps13
  go_wp2_with (go_at_call 17; (with_reducible refine (with_yes t h0 h1 _).mono ?_); rintro e w' ⟨rfl, rfl⟩)
  have TS := (Turned.set hg.out 2 (.int .i64 t)).trans (Turned.set (Turned.set hg.out 2 (.int .i64 t)).at_ 1 (.bool true))
  clear f1 f2 c1 c2
  generalize (w.setCell ⟨g, 2, none⟩ (.int .i64 t)).setCell ⟨g, 1, none⟩ (.bool true) = W at *
  simp at TS
  obtain ⟨hi_, hh⟩ : ∃ hi_ : Int, hi_ = t := ⟨t, rfl⟩
  rw [← hh] at TS
  have hh1 : t ≤ hi_ := by omega
  have hh2 : hi_ ≤ 1099511627776 := by omega
  have HZ := Aside0.mk hh
  clear hh
  have HT := Aside0.mk TS
  have hwr : IntKind.i64.wrap (hi_ - t) = hi_ - t := IntWalk.i64_in _ (by omega)
  have c0 := blk_cell HT.out.at_ 0
  have c2 := blk_cell HT.out.at_ 2
  have c3 := blk_cell HT.out.at_ 3
  have f3 := blk_frozen HT.out.at_ 3
  (try simp only [SB] at c0 c2 c3)
  (try simp at c0 c2 c3)
  replace HT := Aside0.mk HT.out.drew
  go_still_tail 17, (by kernel_rfl)
  change wpList _ _ _ _ _ W.drew
  have c0 : W.drew.cell? ⟨g, 0, none⟩ = _ := c0
  have c2 : W.drew.cell? ⟨g, 2, none⟩ = _ := c2
  have c3 : W.drew.cell? ⟨g, 3, none⟩ = _ := c3
  have f3 : W.drew.frozen? ⟨g, 3, none⟩ = _ := f3
  generalize W.drew = W2 at *
  have q1 : hi_ - t ≤ late := by have := HZ.out; omega
  have q2 : hi_ - t ≤ k := by have := HZ.out; omega
  go_wp2
  go_ret
  have h4 := HT.out.trans (Turned.set HT.out.at_ 3 (.int .i64 k))
  simp at h4
  exact ⟨rfl, by rw [← HZ.out]; exact h4⟩
set_option maxHeartbeats 1000000 in
theorem rsee_up (g : Nat) (late : Int) (high k t : Int) (h0 : -1099511627776 ≤ t) (h1 : t ≤ 1099511627776) (h2 : high < t) (hl0 : 0 ≤ late) (hl1 : late ≤ 1073741824) (hk0 : 0 ≤ k) (hk1 : k ≤ 1073741824)
    (w : World) (hg : Aside0 (w.heap[g]? = some (SB 37 late true high k))) :
    Calls Try.prog 13 #[.pointer (some ⟨g, 0, none⟩), .int .i64 t] w (SeeEnd 37 g late t k w) := by
  have hd := decide_eq_true h2
  have c1 := blk_cell hg.out 1
  have c2 := blk_cell hg.out 2
  have f1 := blk_frozen hg.out 1
  have f2 := blk_frozen hg.out 2
  simp at c1 c2
  go_enter Try.func13, Try.ntmps13
  go_wp2_with (go_at_call 17; (with_reducible refine (with_yes t h0 h1 _).mono ?_); rintro e w' ⟨rfl, rfl⟩)
  have TS := (Turned.set hg.out 2 (.int .i64 t)).trans (Turned.set (Turned.set hg.out 2 (.int .i64 t)).at_ 1 (.bool true))
  clear f1 f2 c1 c2 hd
  generalize (w.setCell ⟨g, 2, none⟩ (.int .i64 t)).setCell ⟨g, 1, none⟩ (.bool true) = W at *
  simp at TS
  obtain ⟨hi_, hh⟩ : ∃ hi_ : Int, hi_ = t := ⟨t, rfl⟩
  rw [← hh] at TS
  have hh1 : t ≤ hi_ := by omega
  have hh2 : hi_ ≤ 1099511627776 := by omega
  have HZ := Aside0.mk hh
  clear hh
  have HT := Aside0.mk TS
  have hwr : IntKind.i64.wrap (hi_ - t) = hi_ - t := IntWalk.i64_in _ (by omega)
  have c0 := blk_cell HT.out.at_ 0
  have c2 := blk_cell HT.out.at_ 2
  have c3 := blk_cell HT.out.at_ 3
  have f3 := blk_frozen HT.out.at_ 3
  (try simp only [SB] at c0 c2 c3)
  (try simp at c0 c2 c3)
  replace HT := Aside0.mk HT.out.drew
  go_still_tail 17, (by kernel_rfl)
  change wpList _ _ _ _ _ W.drew
  have c0 : W.drew.cell? ⟨g, 0, none⟩ = _ := c0
  have c2 : W.drew.cell? ⟨g, 2, none⟩ = _ := c2
  have c3 : W.drew.cell? ⟨g, 3, none⟩ = _ := c3
  have f3 : W.drew.frozen? ⟨g, 3, none⟩ = _ := f3
  generalize W.drew = W2 at *
  have q1 : hi_ - t ≤ late := by have := HZ.out; omega
  have q2 : hi_ - t ≤ k := by have := HZ.out; omega
  go_wp2
  go_ret
  have h4 := HT.out.trans (Turned.set HT.out.at_ 3 (.int .i64 k))
  simp at h4
  exact ⟨rfl, by rw [← HZ.out]; exact h4⟩
end Go.Proofs.Ytklegkmaiaegpaa.SlackW
