-- Written by a program of this session (wip/myprint.py), over the words of the print
import Derived.Test.YtmccgkbbgicglaaQScanRefx0
import Derived.Test.YtmccgkbbgicglaaQScanRefx4
import Derived.Test.YtmccgkbbgicglaaQScanRefx8
import Derived.Test.YtmccgkbbgicglaaQScanRefx9
namespace Go.Proofs.Ytmccgkbbgicglaa.QScanRef
open Go.RowKit Go.Proofs.YtmccgkbbgicglaaW.PrintWords Go.Proofs.YtmccgkbbgicglaaW.PrintLast Go.Proofs.YtmccgkbbgicglaaW.PrintMore
attribute [local go_sem] max2_int min2_int max_two min_two max_three min_three max_four min_four   -- for this text's walks alone
set_option linter.unusedVariables false
set_option linter.unusedSimpArgs false

/-- A state of type 90 at block g of W; what its slices lead to came in by w0. -/
def IsS90 (w0 W : World) (g : Nat) (f0 : ByteArray) (f1 : Int) (f2 : Bool) : Prop := W.heap[g]? = some (.cells #[.string f0, .int .i64 f1, .bool f2] 90 (0, 0)) ∧ w0.heap.size ≤ g
theorem IsS90.grown {w0 W : World} {g : Nat} {f0 : ByteArray} {f1 : Int} {f2 : Bool} {W1 : World} {row : Option Nat} (h : IsS90 w0 W g f0 f1 f2) (hw : W.grownBy W1 row) (hne : some g ≠ row) : IsS90 w0 W1 g f0 f1 f2 := by
 obtain ⟨hb, hg⟩ := h
 exact ⟨blk_grown hb hw hne, hg⟩
theorem IsS90.own_neN {w0 W : World} {g : Nat} {f0 : ByteArray} {f1 : Int} {f2 : Bool} {α : Type} {d : Kd α} {e : Nat} {base : Nat} {ok : Nat → Prop} {v : Value} {xs : List α} (h : IsS90 w0 W g f0 f1 f2) (ho : Kd.N d e W base ok v xs) (ht : e ≠ 90) : some g ≠ v.ownBlock := by
 obtain ⟨hb, hg⟩ := h
 exact Kd.N_ne ho hb ht
theorem IsS90.fresh {w0 W : World} {g : Nat} {f0 : ByteArray} {f1 : Int} {f2 : Bool} (h : IsS90 w0 W g f0 f1 f2) : ∀ k, W.heap.size ≤ k → k ≠ g := by
 obtain ⟨hb, hg⟩ := h
 exact Kd.freshB hb
theorem IsS90.kept {w0 W : World} {g : Nat} {f0 : ByteArray} {f1 : Int} {f2 : Bool} {W1 : World} {S : Nat → Prop} (h : IsS90 w0 W g f0 f1 f2) (hk : Kept W W1 S) (hne : ¬ S g) : IsS90 w0 W1 g f0 f1 f2 := by
 obtain ⟨hb, hg⟩ := h
 exact ⟨blk_kept hb hk hne, hg⟩
theorem IsS90.below {w0 W : World} {g : Nat} {f0 : ByteArray} {f1 : Int} {f2 : Bool} {W1 : World} (h : IsS90 w0 W g f0 f1 f2) (hw : Below W.heap.size W W1) : IsS90 w0 W1 g f0 f1 f2 := h.grown (grown_of_below hw none) (by simp)
theorem IsS90.alloc {w0 W : World} {g : Nat} {f0 : ByteArray} {f1 : Int} {f2 : Bool} (h : IsS90 w0 W g f0 f1 f2) (o : Obj) : IsS90 w0 (W.alloc o) g f0 f1 f2 := h.below (below_alloc (Below.refl _ _) o)
theorem IsS90.drewN {w0 W : World} {g : Nat} {f0 : ByteArray} {f1 : Int} {f2 : Bool} (h : IsS90 w0 W g f0 f1 f2) (m : Nat) : IsS90 w0 (W.drewN m) g f0 f1 f2 := h
theorem IsS90.drew {w0 W : World} {g : Nat} {f0 : ByteArray} {f1 : Int} {f2 : Bool} (h : IsS90 w0 W g f0 f1 f2) : IsS90 w0 W.drew g f0 f1 f2 := h
theorem IsS90.at_ {w0 W : World} {g : Nat} {f0 : ByteArray} {f1 : Int} {f2 : Bool} {w' : World} {m : Nat} (hq : W.drewN m = w') (h : IsS90 w0 W g f0 f1 f2) : IsS90 w0 w' g f0 f1 f2 := by subst hq; exact IsS90.drewN h m
theorem IsS90.apart {w0 W : World} {g : Nat} {f0 : ByteArray} {f1 : Int} {f2 : Bool} {α : Type} {d : Kd α} {e : Nat} {base : Nat} {ok : Nat → Prop} {v : Value} {xs : List α} (h : IsS90 w0 W g f0 f1 f2) (ho : d.R e W base ok v xs) (ht : ∀ q, q ∈ e :: d.E → q ≠ 90) : d.R e W base (fun k => ok k ∧ k ≠ g) v xs := by
 obtain ⟨hb, hg⟩ := h
 exact Kd.R_types ho hb ht
theorem IsS90.own_ne {w0 W : World} {g : Nat} {f0 : ByteArray} {f1 : Int} {f2 : Bool} {α : Type} {d : Kd α} {e : Nat} {base : Nat} {ok : Nat → Prop} {v : Value} {xs : List α} (h : IsS90 w0 W g f0 f1 f2) (ho : d.R e W base ok v xs) (ht : e ≠ 90) : some g ≠ v.ownBlock := by
 obtain ⟨hb, hg⟩ := h
 exact Kd.R_ne ho hb ht
theorem IsS90.apartQ {w0 W : World} {g : Nat} {f0 : ByteArray} {f1 : Int} {f2 : Bool} {α : Type} {d : Kd α} {e : Nat} {base : Nat} {ok : Nat → Prop} {v : Value} {xs : List α} (h : IsS90 w0 W g f0 f1 f2) (ho : d.Q e W base ok v xs) (ht : ∀ q, q ∈ e :: d.E → q ≠ 90) : d.Q e W base (fun k => ok k ∧ k ≠ g) v xs := by
 obtain ⟨hb, hg⟩ := h
 exact Kd.Q_types ho hb ht
theorem IsS90.own_neQ {w0 W : World} {g : Nat} {f0 : ByteArray} {f1 : Int} {f2 : Bool} {α : Type} {d : Kd α} {e : Nat} {base : Nat} {ok : Nat → Prop} {v : Value} {xs : List α} (h : IsS90 w0 W g f0 f1 f2) (ho : d.Q e W base ok v xs) (ht : e ≠ 90) : some g ≠ v.ownBlock := by
 obtain ⟨hb, hg⟩ := h
 exact Kd.Q_ne ho hb ht
theorem IsS90.apartS {w0 W : World} {g : Nat} {f0 : ByteArray} {f1 : Int} {f2 : Bool} {α : Type} {d : Kd α} {e : Nat} {base : Nat} {ok : Nat → Prop} {v : Value} {xs : List α} (h : IsS90 w0 W g f0 f1 f2) (ho : d.S e W base ok v xs) (ht : ∀ q, q ∈ e :: d.E → q ≠ 90) : d.S e W base (fun k => ok k ∧ k ≠ g) v xs := by
 obtain ⟨hb, hg⟩ := h
 exact Kd.S_types ho hb ht
theorem IsS90.own_neS {w0 W : World} {g : Nat} {f0 : ByteArray} {f1 : Int} {f2 : Bool} {α : Type} {d : Kd α} {e : Nat} {base : Nat} {ok : Nat → Prop} {v : Value} {xs : List α} (h : IsS90 w0 W g f0 f1 f2) (ho : d.S e W base ok v xs) (ht : e ≠ 90) : some g ≠ v.ownBlock := by
 obtain ⟨hb, hg⟩ := h
 exact Kd.S_ne ho hb ht
theorem IsS90.lt {w0 W : World} {g : Nat} {f0 : ByteArray} {f1 : Int} {f2 : Bool} (h : IsS90 w0 W g f0 f1 f2) : g < W.heap.size := by
 obtain ⟨hb, hg⟩ := h
 exact blk_lt hb
theorem IsS90.ge {w0 W : World} {g : Nat} {f0 : ByteArray} {f1 : Int} {f2 : Bool} (h : IsS90 w0 W g f0 f1 f2) : w0.heap.size ≤ g := by
 obtain ⟨hb, hg⟩ := h
 exact hg
theorem IsS90.ne_blk {w0 W : World} {g : Nat} {f0 : ByteArray} {f1 : Int} {f2 : Bool} {a : Nat} {cs : Array Value} {t : TypeId} {fr : Nat × Nat} (h : IsS90 w0 W g f0 f1 f2) (hb2 : W.heap[a]? = some (.cells cs t fr)) (ht : t ≠ 90) : g ≠ a := by
 obtain ⟨hb, hg⟩ := h
 rintro rfl
 rw [hb] at hb2
 injection hb2 with hb2
 injection hb2 with _ ht2
 exact ht ht2.symm
theorem IsS90.far {w0 W : World} {g : Nat} {f0 : ByteArray} {f1 : Int} {f2 : Bool} {p : Addr} (h : IsS90 w0 W g f0 f1 f2) (hne : g ≠ p.block) (u : Value) : IsS90 w0 (W.setCell p u) g f0 f1 f2 := by
 obtain ⟨hb, hg⟩ := h
 exact ⟨blk_far hb hne u, hg⟩
theorem cellS90_0 {W : World} {g : Nat} {f0 : ByteArray} {f1 : Int} {f2 : Bool} (h : W.heap[g]? = some (.cells #[.string f0, .int .i64 f1, .bool f2] 90 (0, 0))) : W.cell? ⟨g, 0, none⟩ = some (.string f0) := (blk_cell h 0).trans rfl
theorem IsS90.set_0 {w0 W : World} {g : Nat} {f0 : ByteArray} {f1 : Int} {f2 : Bool} (h : IsS90 w0 W g f0 f1 f2) (x : ByteArray) : IsS90 w0 (W.setCell ⟨g, 0, none⟩ (.string x)) g x f1 f2 := by
 obtain ⟨hb, hg⟩ := h
 exact ⟨by simpa using blk_set hb 0 (.string x), hg⟩
theorem cellS90_1 {W : World} {g : Nat} {f0 : ByteArray} {f1 : Int} {f2 : Bool} (h : W.heap[g]? = some (.cells #[.string f0, .int .i64 f1, .bool f2] 90 (0, 0))) : W.cell? ⟨g, 1, none⟩ = some (.int .i64 f1) := (blk_cell h 1).trans rfl
theorem IsS90.set_1 {w0 W : World} {g : Nat} {f0 : ByteArray} {f1 : Int} {f2 : Bool} (h : IsS90 w0 W g f0 f1 f2) (x : Int) : IsS90 w0 (W.setCell ⟨g, 1, none⟩ (.int .i64 x)) g f0 x f2 := by
 obtain ⟨hb, hg⟩ := h
 exact ⟨by simpa using blk_set hb 1 (.int .i64 x), hg⟩
theorem cellS90_2 {W : World} {g : Nat} {f0 : ByteArray} {f1 : Int} {f2 : Bool} (h : W.heap[g]? = some (.cells #[.string f0, .int .i64 f1, .bool f2] 90 (0, 0))) : W.cell? ⟨g, 2, none⟩ = some (.bool f2) := (blk_cell h 2).trans rfl
theorem IsS90.set_2 {w0 W : World} {g : Nat} {f0 : ByteArray} {f1 : Int} {f2 : Bool} (h : IsS90 w0 W g f0 f1 f2) (x : Bool) : IsS90 w0 (W.setCell ⟨g, 2, none⟩ (.bool x)) g f0 f1 x := by
 obtain ⟨hb, hg⟩ := h
 exact ⟨by simpa using blk_set hb 2 (.bool x), hg⟩
theorem IsS90.new (w0 W : World) (f0 : ByteArray) (f1 : Int) (f2 : Bool) (hB : Below w0.heap.size w0 W) : IsS90 w0 (W.alloc (.cells #[.string f0, .int .i64 f1, .bool f2] 90)) W.heap.size f0 f1 f2 := ⟨by simpa using heap_alloc_new W _, hB.size⟩

/-! ### bourneref1_Reader_Num: function 53 -/
def bourneref1_Reader_Num.f (k : Nat) (s0_0 : ByteArray) (s0_1 : Int) (s0_2 : Bool) : Option (Int × ByteArray × Int × Bool) := (bourneref1_GetNum.f k s0_0 s0_1).bind fun bt155 => (if s0_2 = true then (some (0, s0_0, s0_1, true)) else (if bt155.2.2 = 0 then (some (bt155.1, s0_0, bt155.2.1, s0_2)) else (some (0, s0_0, s0_1, true))))
theorem bourneref1_Reader_Num.mono : ∀ a0 a1 a2 k, LeO (bourneref1_Reader_Num.f k a0 a1 a2) (bourneref1_Reader_Num.f (k + 1) a0 a1 a2) := by
 intro a0 a1 a2 k
 unfold bourneref1_Reader_Num.f
 repeat' first
    | (with_reducible exact bourneref1_GetNum.mono _ _ _)
    | (with_reducible exact LeO.refl _)
    | (with_reducible exact LeO.none _)
    | (with_reducible refine LeO.ite ?_ ?_)
    | (with_reducible refine LeO.bind ?_ (fun _ => ?_))
    | exact bourneref1_GetNum.mono _ _ _
    | exact LeO.none _
    | refine LeO.ite ?_ ?_
    | refine LeO.bind ?_ (fun _ => ?_)
set_option maxHeartbeats 8000000 in
set_option maxRecDepth 100000 in
theorem bourneref1_Reader_Num.calls (k : Nat) (g : Nat) (s0_0 : ByteArray) (s0_1 : Int) (s0_2 : Bool) (r1 : Int) (r2 : ByteArray) (r3 : Int) (r4 : Bool) (w0 w : World) (hI : IsS90 w0 w g s0_0 s0_1 s0_2) (hB : Below w0.heap.size w0 w) (h : bourneref1_Reader_Num.f k s0_0 s0_1 s0_2 = some (r1, r2, r3, r4)) :
  Calls Try.prog 53 #[.pointer (some ⟨g, 0, none⟩)] w fun e w' => e = .returned (.int .i64 r1) ∧ IsS90 w0 w' g r2 r3 r4 ∧ Below w0.heap.size w0 w' ∧ KeepBut w w' g none := by
 have HI0 := Aside0.mk hI
 have HK := Aside0.mk (KeepBut.refl w g none)
 have HL := Aside0.mk hB.size
 clear hI
 have HW0 := Aside0.mk hB.size
 have HB := Aside0.mk hB
 clear hB
 have H : ((bourneref1_GetNum.f k s0_0 s0_1).bind fun bt155 => (if s0_2 = true then (some (0, s0_0, s0_1, true)) else (if bt155.2.2 = 0 then (some (bt155.1, s0_0, bt155.2.1, s0_2)) else (some (0, s0_0, s0_1, true))))) = some (r1, r2, r3, r4) := h
 clear h
 replace H := Option.bind_eq_some_iff.mp H
 obtain ⟨⟨t155, t156, t157⟩, A20, H⟩ := H
 replace H : (if s0_2 = true then (some (0, s0_0, s0_1, true)) else (if t157 = 0 then (some (t155, s0_0, t156, s0_2)) else (some (0, s0_0, s0_1, true)))) = some (r1, r2, r3, r4) := H
 have A2 := Aside0.mk A20
 clear A20
 by_cases c3 : s0_2 = true
 ·subst c3
  have H1 : (some (0, s0_0, s0_1, true)) = some (r1, r2, r3, r4) := by rw [if_pos rfl] at H; exact H
  clear H
  have H := H1
  clear H1
  simp only [Option.some.injEq, Prod.mk.injEq] at H
  obtain ⟨rfl, rfl, rfl, rfl⟩ := H
  obtain ⟨HGz4, hgz4⟩ := HI0.out
  have hcz4_0 := cellS90_0 HGz4
  have hcz4_1 := cellS90_1 HGz4
  have hcz4_2 := cellS90_2 HGz4
  have hfz4_0 := blk_frozen HGz4 0
  have hfz4_1 := blk_frozen HGz4 1
  have hfz4_2 := blk_frozen HGz4 2
  clear HGz4 hgz4
  go_enter Try.func53, Try.ntmps53
  go_wp2_with (first | (go_at_call 55; (with_reducible refine (bourneref1_GetNum.calls k s0_0 s0_1 t155 t156 t157 _ A2.out).mono ?_); rintro e w' ⟨rfl, ⟨nd, rfl⟩⟩; (try first | exact ⟨rfl, _, World.drewN_drewN _ _ _⟩ | exact ⟨rfl, _, Eq.trans (World.drewN_drewN _ _ _) (congrArg (World.drewN _) (Nat.add_assoc _ _ _))⟩)))
  repeat (go_quiet (first | (go_at_call 55; (with_reducible refine (bourneref1_GetNum.calls k s0_0 s0_1 t155 t156 t157 _ A2.out).mono ?_); rintro e w' ⟨rfl, ⟨nd, rfl⟩⟩; (try first | exact ⟨rfl, _, World.drewN_drewN _ _ _⟩ | exact ⟨rfl, _, Eq.trans (World.drewN_drewN _ _ _) (congrArg (World.drewN _) (Nat.add_assoc _ _ _))⟩))); try go_wp2_with (first | (go_at_call 55; (with_reducible refine (bourneref1_GetNum.calls k s0_0 s0_1 t155 t156 t157 _ A2.out).mono ?_); rintro e w' ⟨rfl, ⟨nd, rfl⟩⟩; (try first | exact ⟨rfl, _, World.drewN_drewN _ _ _⟩ | exact ⟨rfl, _, Eq.trans (World.drewN_drewN _ _ _) (congrArg (World.drewN _) (Nat.add_assoc _ _ _))⟩))))
  go_ret
  exact ⟨by first | rfl | (simp [errW_none, errW_some] <;> rfl) | (simp [*, errW_none, errW_some] <;> rfl), by repeat (first | (with_reducible first | exact HI0.out | apply IsS90.alloc | apply IsS90.drewN | apply IsS90.drew | apply IsS90.set_0 | apply IsS90.set_1 | apply IsS90.set_2) | exact HI0.out), by repeat (first | (with_reducible first | exact HB.out | apply below_alloc | apply pw_below_drewN | apply below_drew1 | refine below_set ?_ (IsS90.ge HI0.out)) | exact HB.out), by repeat (first | (with_reducible first | exact HK.out | apply KeepBut.set_ | apply keep_drewN | apply keep_drew | apply keep_alloc) | exact HK.out)⟩
 ·replace c3 := Bool.eq_false_iff.mpr c3
  subst c3
  have H1 : (if t157 = 0 then (some (t155, s0_0, t156, false)) else (some (0, s0_0, s0_1, true))) = some (r1, r2, r3, r4) := by rw [if_neg (show ¬ (false = true) by decide)] at H; exact H
  clear H
  have H := H1
  clear H1
  by_cases c5 : t157 = 0
  ·rw [if_pos c5] at H
   have c5b0 : (t157 == 0) = true := beq_iff_eq.mpr c5
   have c5b1 : (t157 != 0) = false := bne_eq_false_iff_eq.mpr c5
   clear c5
   simp only [Option.some.injEq, Prod.mk.injEq] at H
   obtain ⟨rfl, rfl, rfl, rfl⟩ := H
   obtain ⟨HGz6, hgz6⟩ := HI0.out
   have hcz6_0 := cellS90_0 HGz6
   have hcz6_1 := cellS90_1 HGz6
   have hcz6_2 := cellS90_2 HGz6
   have hfz6_0 := blk_frozen HGz6 0
   have hfz6_1 := blk_frozen HGz6 1
   have hfz6_2 := blk_frozen HGz6 2
   clear HGz6 hgz6
   go_enter Try.func53, Try.ntmps53
   go_wp2_with (first | (go_at_call 55; (with_reducible refine (bourneref1_GetNum.calls k s0_0 s0_1 t155 t156 t157 _ A2.out).mono ?_); rintro e w' ⟨rfl, ⟨nd, rfl⟩⟩; (try first | exact ⟨rfl, _, World.drewN_drewN _ _ _⟩ | exact ⟨rfl, _, Eq.trans (World.drewN_drewN _ _ _) (congrArg (World.drewN _) (Nat.add_assoc _ _ _))⟩)))
   repeat (go_quiet (first | (go_at_call 55; (with_reducible refine (bourneref1_GetNum.calls k s0_0 s0_1 t155 t156 t157 _ A2.out).mono ?_); rintro e w' ⟨rfl, ⟨nd, rfl⟩⟩; (try first | exact ⟨rfl, _, World.drewN_drewN _ _ _⟩ | exact ⟨rfl, _, Eq.trans (World.drewN_drewN _ _ _) (congrArg (World.drewN _) (Nat.add_assoc _ _ _))⟩))); try go_wp2_with (first | (go_at_call 55; (with_reducible refine (bourneref1_GetNum.calls k s0_0 s0_1 t155 t156 t157 _ A2.out).mono ?_); rintro e w' ⟨rfl, ⟨nd, rfl⟩⟩; (try first | exact ⟨rfl, _, World.drewN_drewN _ _ _⟩ | exact ⟨rfl, _, Eq.trans (World.drewN_drewN _ _ _) (congrArg (World.drewN _) (Nat.add_assoc _ _ _))⟩))))
   go_ret
   exact ⟨by first | rfl | (simp [errW_none, errW_some] <;> rfl) | (simp [*, errW_none, errW_some] <;> rfl), by repeat (first | (with_reducible first | exact HI0.out | apply IsS90.alloc | apply IsS90.drewN | apply IsS90.drew | apply IsS90.set_0 | apply IsS90.set_1 | apply IsS90.set_2) | exact HI0.out), by repeat (first | (with_reducible first | exact HB.out | apply below_alloc | apply pw_below_drewN | apply below_drew1 | refine below_set ?_ (IsS90.ge HI0.out)) | exact HB.out), by repeat (first | (with_reducible first | exact HK.out | apply KeepBut.set_ | apply keep_drewN | apply keep_drew | apply keep_alloc) | exact HK.out)⟩
  ·rw [if_neg c5] at H
   have c5b0 : (t157 == 0) = false := beq_eq_false_iff_ne.mpr c5
   have c5b1 : (t157 != 0) = true := bne_iff_ne.mpr c5
   simp only [Option.some.injEq, Prod.mk.injEq] at H
   obtain ⟨rfl, rfl, rfl, rfl⟩ := H
   obtain ⟨HGz7, hgz7⟩ := HI0.out
   have hcz7_0 := cellS90_0 HGz7
   have hcz7_1 := cellS90_1 HGz7
   have hcz7_2 := cellS90_2 HGz7
   have hfz7_0 := blk_frozen HGz7 0
   have hfz7_1 := blk_frozen HGz7 1
   have hfz7_2 := blk_frozen HGz7 2
   clear HGz7 hgz7
   go_enter Try.func53, Try.ntmps53
   go_wp2_with (first | (go_at_call 55; (with_reducible refine (bourneref1_GetNum.calls k s0_0 s0_1 t155 t156 t157 _ A2.out).mono ?_); rintro e w' ⟨rfl, ⟨nd, rfl⟩⟩; (try first | exact ⟨rfl, _, World.drewN_drewN _ _ _⟩ | exact ⟨rfl, _, Eq.trans (World.drewN_drewN _ _ _) (congrArg (World.drewN _) (Nat.add_assoc _ _ _))⟩)))
   repeat (go_quiet (first | (go_at_call 55; (with_reducible refine (bourneref1_GetNum.calls k s0_0 s0_1 t155 t156 t157 _ A2.out).mono ?_); rintro e w' ⟨rfl, ⟨nd, rfl⟩⟩; (try first | exact ⟨rfl, _, World.drewN_drewN _ _ _⟩ | exact ⟨rfl, _, Eq.trans (World.drewN_drewN _ _ _) (congrArg (World.drewN _) (Nat.add_assoc _ _ _))⟩))); try go_wp2_with (first | (go_at_call 55; (with_reducible refine (bourneref1_GetNum.calls k s0_0 s0_1 t155 t156 t157 _ A2.out).mono ?_); rintro e w' ⟨rfl, ⟨nd, rfl⟩⟩; (try first | exact ⟨rfl, _, World.drewN_drewN _ _ _⟩ | exact ⟨rfl, _, Eq.trans (World.drewN_drewN _ _ _) (congrArg (World.drewN _) (Nat.add_assoc _ _ _))⟩))))
   go_ret
   exact ⟨by first | rfl | (simp [errW_none, errW_some] <;> rfl) | (simp [*, errW_none, errW_some] <;> rfl), by repeat (first | (with_reducible first | exact HI0.out | apply IsS90.alloc | apply IsS90.drewN | apply IsS90.drew | apply IsS90.set_0 | apply IsS90.set_1 | apply IsS90.set_2) | exact HI0.out), by repeat (first | (with_reducible first | exact HB.out | apply below_alloc | apply pw_below_drewN | apply below_drew1 | refine below_set ?_ (IsS90.ge HI0.out)) | exact HB.out), by repeat (first | (with_reducible first | exact HK.out | apply KeepBut.set_ | apply keep_drewN | apply keep_drew | apply keep_alloc) | exact HK.out)⟩

/-! ### bourneref1_GetOp: function 46, by a walk of its own -/
abbrev GetOpRes := Int × Int × Int × Int × Int × ByteArray × Int × Bool
def bourneref1_GetOp.raw (k : Nat) (a0 : ByteArray) : Option GetOpRes :=
 (bourneref1_Reader_Num.f k a0 0 false).bind fun t0 =>
  if t0.1 = 0 then
   (bourneref1_Reader_Num.f k t0.2.1 t0.2.2.1 t0.2.2.2).bind fun t1 => (bourneref1_Reader_Num.f k t1.2.1 t1.2.2.1 t1.2.2.2).bind fun t2 =>
   (bourneref1_Reader_Num.f k t2.2.1 t2.2.2.1 t2.2.2.2).bind fun t3 => (bourneref1_Reader_Num.f k t3.2.1 t3.2.2.1 t3.2.2.2).bind fun t4 =>
   some (t0.1, t1.1, t2.1, t3.1, t4.1, t4.2)
  else if t0.1 = 1 then
   (bourneref1_Reader_Num.f k t0.2.1 t0.2.2.1 t0.2.2.2).bind fun t1 => (bourneref1_Reader_Num.f k t1.2.1 t1.2.2.1 t1.2.2.2).bind fun t2 =>
   some (t0.1, t1.1, 0, t2.1, 0, t2.2)
  else some (t0.1, 0, 0, 0, 0, t0.2)
def bourneref1_GetOp.f (k : Nat) (a0 : ByteArray) : Option (Int × Int × Int × Int × Int × Int) :=
 (bourneref1_GetOp.raw k a0).bind fun q =>
  if q.2.2.2.2.2.2.2 = true then some (0, 0, 0, 0, 0, 900)
  else if (q.2.2.2.2.2.2.1 == (a0.size : Int)) = true then
   (bourneref1_OpMay.f k q.1 q.2.1 q.2.2.1 q.2.2.2.1 q.2.2.2.2.1).bind fun m => if m = true then some (q.1, q.2.1, q.2.2.1, q.2.2.2.1, q.2.2.2.2.1, 0) else some (0, 0, 0, 0, 0, 900)
  else some (0, 0, 0, 0, 0, 900)
theorem bourneref1_GetOp.mono : ∀ a0 k, LeO (bourneref1_GetOp.f k a0) (bourneref1_GetOp.f (k + 1) a0) := by
 intro a0 k
 unfold bourneref1_GetOp.f bourneref1_GetOp.raw
 repeat' first
   | exact LeO.refl _
   | exact bourneref1_Reader_Num.mono _ _ _ _
   | exact bourneref1_OpMay.mono _ _ _ _ _ _
   | exact LeO.none _
   | refine LeO.ite ?_ ?_
   | refine LeO.bind ?_ (fun _ => ?_)
structure bourneref1_GetOp.G (w W : World) (gr : Nat) (s : ByteArray) (at_ : Int) (bad : Bool) : Prop where
 res : W.heap[w.heap.size]? = some (.cells #[.int .i64 0, .int .i64 0, .int .i64 0, .int .i64 0, .int .i64 0] 49 (0, 0))
 rd : IsS90 w W gr s at_ bad
 ne : w.heap.size < gr
 below : Below w.heap.size w W
theorem bourneref1_GetOp.G.num {w W W' : World} {gr : Nat} {s s' : ByteArray} {at_ at' : Int} {bad bad' : Bool} (h : bourneref1_GetOp.G w W gr s at_ bad) (hI : IsS90 w W' gr s' at' bad') (hB : Below w.heap.size w W') (hK : KeepBut W W' gr none) : bourneref1_GetOp.G w W' gr s' at' bad' :=
 ⟨by rw [hK.2 _ (Nat.lt_trans h.ne h.rd.lt) (Nat.ne_of_lt h.ne) (by simp)]; exact h.res, hI, h.ne, hB⟩
theorem bourneref1_GetOp.G.start (w : World) (a0 : ByteArray) : bourneref1_GetOp.G w ((w.alloc (.cells #[.int .i64 0, .int .i64 0, .int .i64 0, .int .i64 0, .int .i64 0] 49)).alloc (.cells #[.string a0, .int .i64 0, .bool false] 90)) (w.heap.size + 1) a0 0 false :=
 ⟨by show ((w.heap.push _).push _)[w.heap.size]? = _; simp [Array.getElem?_push], by
  have e : (w.alloc (.cells #[.int .i64 0, .int .i64 0, .int .i64 0, .int .i64 0, .int .i64 0] 49)).heap.size = w.heap.size + 1 := Array.size_push ..
  rw [← e]; exact IsS90.new w _ a0 0 false (below_alloc (Below.refl _ _) _), by omega, below_alloc (below_alloc (Below.refl _ _) _) _⟩
structure bourneref1_GetOp.O (w W : World) (gr go : Nat) (s : ByteArray) (at_ : Int) (bad : Bool) (k a b c d : Int) : Prop where
 g : bourneref1_GetOp.G w W gr s at_ bad
 o : W.heap[go]? = some (.cells #[.int .i64 k, .int .i64 a, .int .i64 b, .int .i64 c, .int .i64 d] 49 (0, 0))
 ne : gr < go
theorem bourneref1_GetOp.G.step {w W W' : World} {gr : Nat} {s : ByteArray} {at_ : Int} {bad : Bool} (h : bourneref1_GetOp.G w W gr s at_ bad) (hb : Below W.heap.size W W') : bourneref1_GetOp.G w W' gr s at_ bad :=
 ⟨blk_below h.res hb, h.rd.below hb, h.ne, below_step h.below hb⟩
theorem bourneref1_GetOp.G.far {w W : World} {gr go : Nat} {s : ByteArray} {at_ : Int} {bad : Bool} (h : bourneref1_GetOp.G w W gr s at_ bad) (hn : gr < go) (j : Nat) (u : Value) : bourneref1_GetOp.G w (W.setCell ⟨go, j, none⟩ u) gr s at_ bad :=
 ⟨blk_far h.res (Nat.ne_of_lt (Nat.lt_trans h.ne hn)) u, h.rd.far (Nat.ne_of_lt hn) u, h.ne, below_set h.below (Nat.le_of_lt (Nat.lt_trans h.ne hn))⟩
theorem bourneref1_GetOp.O.new {w W : World} {gr : Nat} {s : ByteArray} {at_ : Int} {bad : Bool} (h : bourneref1_GetOp.G w W gr s at_ bad) (k : Int) : bourneref1_GetOp.O w (W.alloc (.cells #[.int .i64 k, .int .i64 0, .int .i64 0, .int .i64 0, .int .i64 0] 49)) gr W.heap.size s at_ bad k 0 0 0 0 :=
 ⟨h.step (below_alloc (Below.refl _ _) _), blk_new _ _, h.rd.lt⟩
theorem bourneref1_GetOp.O.num {w W W' : World} {gr go : Nat} {s s' : ByteArray} {at_ at' : Int} {bad bad' : Bool} {k a b c d : Int} (h : bourneref1_GetOp.O w W gr go s at_ bad k a b c d) (hI : IsS90 w W' gr s' at' bad') (hB : Below w.heap.size w W') (hK : KeepBut W W' gr none) : bourneref1_GetOp.O w W' gr go s' at' bad' k a b c d :=
 ⟨h.g.num hI hB hK, by rw [hK.2 _ (blk_lt h.o) (Nat.ne_of_gt h.ne) (by simp)]; exact h.o, h.ne⟩
theorem bourneref1_GetOp.O.step {w W W' : World} {gr go : Nat} {s : ByteArray} {at_ : Int} {bad : Bool} {k a b c d : Int} (h : bourneref1_GetOp.O w W gr go s at_ bad k a b c d) (hb : Below W.heap.size W W') : bourneref1_GetOp.O w W' gr go s at_ bad k a b c d :=
 ⟨h.g.step hb, blk_below h.o hb, h.ne⟩
theorem bourneref1_GetOp.O.set1 {w W : World} {gr go : Nat} {s : ByteArray} {at_ : Int} {bad : Bool} {k a b c d : Int} (h : bourneref1_GetOp.O w W gr go s at_ bad k a b c d) (x : Int) : bourneref1_GetOp.O w (W.setCell ⟨go, 1, none⟩ (.int .i64 x)) gr go s at_ bad k x b c d := ⟨h.g.far h.ne _ _, blk_put h.o _ _ rfl, h.ne⟩
theorem bourneref1_GetOp.O.set2 {w W : World} {gr go : Nat} {s : ByteArray} {at_ : Int} {bad : Bool} {k a b c d : Int} (h : bourneref1_GetOp.O w W gr go s at_ bad k a b c d) (x : Int) : bourneref1_GetOp.O w (W.setCell ⟨go, 2, none⟩ (.int .i64 x)) gr go s at_ bad k a x c d := ⟨h.g.far h.ne _ _, blk_put h.o _ _ rfl, h.ne⟩
theorem bourneref1_GetOp.O.set3 {w W : World} {gr go : Nat} {s : ByteArray} {at_ : Int} {bad : Bool} {k a b c d : Int} (h : bourneref1_GetOp.O w W gr go s at_ bad k a b c d) (x : Int) : bourneref1_GetOp.O w (W.setCell ⟨go, 3, none⟩ (.int .i64 x)) gr go s at_ bad k a b x d := ⟨h.g.far h.ne _ _, blk_put h.o _ _ rfl, h.ne⟩
theorem bourneref1_GetOp.O.set4 {w W : World} {gr go : Nat} {s : ByteArray} {at_ : Int} {bad : Bool} {k a b c d : Int} (h : bourneref1_GetOp.O w W gr go s at_ bad k a b c d) (x : Int) : bourneref1_GetOp.O w (W.setCell ⟨go, 4, none⟩ (.int .i64 x)) gr go s at_ bad k a b c x := ⟨h.g.far h.ne _ _, blk_put h.o _ _ rfl, h.ne⟩
theorem bourneref1_GetOp.res5 {W : World} {g : Nat} (h : W.heap[g]? = some (.cells #[.int .i64 0, .int .i64 0, .int .i64 0, .int .i64 0, .int .i64 0] 49 (0, 0))) (a b c d e : Int) : (((((W.setCell ⟨g, 0, none⟩ (.int .i64 a)).setCell ⟨g, 1, none⟩ (.int .i64 b)).setCell ⟨g, 2, none⟩ (.int .i64 c)).setCell ⟨g, 3, none⟩ (.int .i64 d)).setCell ⟨g, 4, none⟩ (.int .i64 e)).heap[g]? = some (.cells #[.int .i64 a, .int .i64 b, .int .i64 c, .int .i64 d, .int .i64 e] 49 (0, 0)) :=
 blk_put (blk_put (blk_put (blk_put (blk_put h 0 _ rfl) 1 _ rfl) 2 _ rfl) 3 _ rfl) 4 _ rfl
set_option maxHeartbeats 8000000 in
set_option maxRecDepth 100000 in
theorem bourneref1_GetOp.calls (k : Nat) (a0 : ByteArray) (r1 : Int) (r2 : Int) (r3 : Int) (r4 : Int) (r5 : Int) (r6 : Int) (w : World) (h : bourneref1_GetOp.f k a0 = some (r1, r2, r3, r4, r5, r6)) :
  Calls Try.prog 46 #[.string a0] w fun e w' => e = .returned (.tuple #[.agg #[.int .i64 r1, .int .i64 r2, .int .i64 r3, .int .i64 r4, .int .i64 r5], .int .i64 r6]) ∧ Below w.heap.size w w' := by
 unfold bourneref1_GetOp.f at h
 obtain ⟨q, hq, h⟩ := Option.bind_eq_some_iff.mp h
 have H := Aside0.mk h
 clear h
 unfold bourneref1_GetOp.raw at hq
 obtain ⟨⟨n0, s0, p0, b0⟩, h0, hq⟩ := Option.bind_eq_some_iff.mp hq
 have H0 := Aside0.mk h0
 clear h0
 dsimp only at hq
 have G2 := Aside0.mk (bourneref1_GetOp.G.start w a0)
 rcases (show n0 = 0 ∨ n0 = 1 ∨ (n0 ≠ 0 ∧ n0 ≠ 1) by omega) with rfl | rfl | ⟨c0, c1⟩
 ·rw [if_pos rfl] at hq
  obtain ⟨⟨n1, s1, p1, b1⟩, h1, hq⟩ := Option.bind_eq_some_iff.mp hq
  have H1 := Aside0.mk h1
  clear h1
  dsimp only at hq
  obtain ⟨⟨n2, s2, p2, b2⟩, h2, hq⟩ := Option.bind_eq_some_iff.mp hq
  have H2 := Aside0.mk h2
  clear h2
  dsimp only at hq
  obtain ⟨⟨n3, s3, p3, b3⟩, h3, hq⟩ := Option.bind_eq_some_iff.mp hq
  have H3 := Aside0.mk h3
  clear h3
  dsimp only at hq
  obtain ⟨⟨n4, s4, p4, b4⟩, h4, hq⟩ := Option.bind_eq_some_iff.mp hq
  have H4 := Aside0.mk h4
  clear h4
  dsimp only at hq
  obtain rfl := Option.some.inj hq
  clear hq
  go_enter Try.func46, Try.ntmps46
  go_wp2_with fail
  refine (bourneref1_Reader_Num.calls k _ a0 0 false 0 s0 p0 b0 w _ G2.out.rd G2.out.below H0.out).mono ?_
  rintro e W3 ⟨rfl, hI, hB, hK⟩
  have G3 := Aside0.mk (G2.out.num hI hB hK)
  clear hI hB hK G2
  go_wp2_with fail
  have O0 := Aside0.mk (bourneref1_GetOp.O.new G3.out 0)
  clear G3
  generalize hgo : W3.heap.size = go at *
  generalize W3.alloc _ = V0 at *
  clear hgo
  refine (bourneref1_Reader_Num.calls k _ s0 p0 b0 n1 s1 p1 b1 w _ O0.out.g.rd O0.out.g.below H1.out).mono ?_
  rintro e V1 ⟨rfl, hI, hB, hK⟩
  have P1 := Aside0.mk (O0.out.num hI hB hK)
  clear hI hB hK O0
  have z : V1.cell? ⟨go, 1, none⟩ = some (.int .i64 0) := blk_cell P1.out.o 1
  have f := blk_frozen P1.out.o 1
  go_wp2_with fail
  have O1 := Aside0.mk (P1.out.set1 n1)
  clear z f P1
  generalize V1.setCell ⟨go, 1, none⟩ (.int .i64 n1) = U1 at *
  refine (bourneref1_Reader_Num.calls k _ s1 p1 b1 n2 s2 p2 b2 w _ O1.out.g.rd O1.out.g.below H2.out).mono ?_
  rintro e V2 ⟨rfl, hI, hB, hK⟩
  have P2 := Aside0.mk (O1.out.num hI hB hK)
  clear hI hB hK O1
  have z : V2.cell? ⟨go, 2, none⟩ = some (.int .i64 0) := blk_cell P2.out.o 2
  have f := blk_frozen P2.out.o 2
  go_wp2_with fail
  have O2 := Aside0.mk (P2.out.set2 n2)
  clear z f P2
  generalize V2.setCell ⟨go, 2, none⟩ (.int .i64 n2) = U2 at *
  refine (bourneref1_Reader_Num.calls k _ s2 p2 b2 n3 s3 p3 b3 w _ O2.out.g.rd O2.out.g.below H3.out).mono ?_
  rintro e V3 ⟨rfl, hI, hB, hK⟩
  have P3 := Aside0.mk (O2.out.num hI hB hK)
  clear hI hB hK O2
  have z : V3.cell? ⟨go, 3, none⟩ = some (.int .i64 0) := blk_cell P3.out.o 3
  have f := blk_frozen P3.out.o 3
  go_wp2_with fail
  have O3 := Aside0.mk (P3.out.set3 n3)
  clear z f P3
  generalize V3.setCell ⟨go, 3, none⟩ (.int .i64 n3) = U3 at *
  refine (bourneref1_Reader_Num.calls k _ s3 p3 b3 n4 s4 p4 b4 w _ O3.out.g.rd O3.out.g.below H4.out).mono ?_
  rintro e V4 ⟨rfl, hI, hB, hK⟩
  have P4 := Aside0.mk (O3.out.num hI hB hK)
  clear hI hB hK O3
  have z : V4.cell? ⟨go, 4, none⟩ = some (.int .i64 0) := blk_cell P4.out.o 4
  have f := blk_frozen P4.out.o 4
  go_upto_region 12 with (fail)
  have O4 := Aside0.mk (P4.out.set4 n4)
  clear z f P4
  generalize V4.setCell ⟨go, 4, none⟩ (.int .i64 n4) = U4 at *
  have B8 := Aside0.mk O4.out.g.below
  have rb : U4.cell? ⟨_, 2, none⟩ = some (.bool b4) := blk_cell O4.out.g.rd.1 2
  have ra : U4.cell? ⟨_, 1, none⟩ = some (.int .i64 p4) := blk_cell O4.out.g.rd.1 1
  have h := H.out
  clear H
  (try dsimp only at h)
  cases b4 with
   | true =>
   rw [if_pos rfl] at h
   obtain ⟨rfl, rfl, rfl, rfl, rfl, rfl⟩ : 0 = r1 ∧ 0 = r2 ∧ 0 = r3 ∧ 0 = r4 ∧ 0 = r5 ∧ 900 = r6 := by simpa only [Option.some.injEq, Prod.mk.injEq] using h
   clear h
   have y0 : U4.cell? ⟨go, 0, none⟩ = some (.int .i64 _) := blk_cell O4.out.o 0; have y1 : U4.cell? ⟨go, 1, none⟩ = some (.int .i64 _) := blk_cell O4.out.o 1; have y2 : U4.cell? ⟨go, 2, none⟩ = some (.int .i64 _) := blk_cell O4.out.o 2; have y3 : U4.cell? ⟨go, 3, none⟩ = some (.int .i64 _) := blk_cell O4.out.o 3; have y4 : U4.cell? ⟨go, 4, none⟩ = some (.int .i64 _) := blk_cell O4.out.o 4; have x0 : U4.cell? ⟨w.heap.size, 0, none⟩ = some (.int .i64 0) := blk_cell O4.out.g.res 0; have x1 : U4.cell? ⟨w.heap.size, 1, none⟩ = some (.int .i64 0) := blk_cell O4.out.g.res 1; have x2 : U4.cell? ⟨w.heap.size, 2, none⟩ = some (.int .i64 0) := blk_cell O4.out.g.res 2; have x3 : U4.cell? ⟨w.heap.size, 3, none⟩ = some (.int .i64 0) := blk_cell O4.out.g.res 3; have x4 : U4.cell? ⟨w.heap.size, 4, none⟩ = some (.int .i64 0) := blk_cell O4.out.g.res 4; have f0 := blk_frozen O4.out.g.res 0; have f1 := blk_frozen O4.out.g.res 1; have f2 := blk_frozen O4.out.g.res 2; have f3 := blk_frozen O4.out.g.res 3; have f4 := blk_frozen O4.out.g.res 4
   go_wp2_with fail
   (try simp only [Exit.inBlock, Exit.then]); refine bodyPost_ret (results_ct rfl _ _ w.heap.size 49 #[.int .i64 0, .int .i64 0, .int .i64 0, .int .i64 0, .int .i64 0] (0, 0) _ rfl (bourneref1_GetOp.res5 O4.out.g.res _ _ _ _ _) Try.underlying49 rfl (by kernel_rfl)) rfl ?_; exact ⟨by first | rfl | simp, by repeat (first | exact B8.out | refine below_set ?_ (Nat.le_refl _))⟩
   | false =>
   rw [if_neg (by decide)] at h
   cases hz : (p4 == (a0.size : Int)) with
    | false =>
    rw [hz, if_neg (by decide)] at h
    obtain ⟨rfl, rfl, rfl, rfl, rfl, rfl⟩ : 0 = r1 ∧ 0 = r2 ∧ 0 = r3 ∧ 0 = r4 ∧ 0 = r5 ∧ 900 = r6 := by simpa only [Option.some.injEq, Prod.mk.injEq] using h
    clear h
    have hz2 : (p4 != (a0.size : Int)) = true := by rw [bne, hz]; rfl
    have y0 : U4.cell? ⟨go, 0, none⟩ = some (.int .i64 _) := blk_cell O4.out.o 0; have y1 : U4.cell? ⟨go, 1, none⟩ = some (.int .i64 _) := blk_cell O4.out.o 1; have y2 : U4.cell? ⟨go, 2, none⟩ = some (.int .i64 _) := blk_cell O4.out.o 2; have y3 : U4.cell? ⟨go, 3, none⟩ = some (.int .i64 _) := blk_cell O4.out.o 3; have y4 : U4.cell? ⟨go, 4, none⟩ = some (.int .i64 _) := blk_cell O4.out.o 4; have x0 : U4.cell? ⟨w.heap.size, 0, none⟩ = some (.int .i64 0) := blk_cell O4.out.g.res 0; have x1 : U4.cell? ⟨w.heap.size, 1, none⟩ = some (.int .i64 0) := blk_cell O4.out.g.res 1; have x2 : U4.cell? ⟨w.heap.size, 2, none⟩ = some (.int .i64 0) := blk_cell O4.out.g.res 2; have x3 : U4.cell? ⟨w.heap.size, 3, none⟩ = some (.int .i64 0) := blk_cell O4.out.g.res 3; have x4 : U4.cell? ⟨w.heap.size, 4, none⟩ = some (.int .i64 0) := blk_cell O4.out.g.res 4; have f0 := blk_frozen O4.out.g.res 0; have f1 := blk_frozen O4.out.g.res 1; have f2 := blk_frozen O4.out.g.res 2; have f3 := blk_frozen O4.out.g.res 3; have f4 := blk_frozen O4.out.g.res 4
    go_wp2_with fail
    (try simp only [Exit.inBlock, Exit.then]); refine bodyPost_ret (results_ct rfl _ _ w.heap.size 49 #[.int .i64 0, .int .i64 0, .int .i64 0, .int .i64 0, .int .i64 0] (0, 0) _ rfl (bourneref1_GetOp.res5 O4.out.g.res _ _ _ _ _) Try.underlying49 rfl (by kernel_rfl)) rfl ?_; exact ⟨by first | rfl | simp, by repeat (first | exact B8.out | refine below_set ?_ (Nat.le_refl _))⟩
    | true =>
    rw [hz, if_pos rfl] at h
    have hz2 : (p4 != (a0.size : Int)) = false := by rw [bne, hz]; rfl
    obtain ⟨om, hm1, h⟩ := Option.bind_eq_some_iff.mp h
    have hm := Aside0.mk hm1
    have H := Aside0.mk h
    clear hm1 h
    have y0 : U4.cell? ⟨go, 0, none⟩ = some (.int .i64 _) := blk_cell O4.out.o 0; have y1 : U4.cell? ⟨go, 1, none⟩ = some (.int .i64 _) := blk_cell O4.out.o 1; have y2 : U4.cell? ⟨go, 2, none⟩ = some (.int .i64 _) := blk_cell O4.out.o 2; have y3 : U4.cell? ⟨go, 3, none⟩ = some (.int .i64 _) := blk_cell O4.out.o 3; have y4 : U4.cell? ⟨go, 4, none⟩ = some (.int .i64 _) := blk_cell O4.out.o 4; have x0 : U4.cell? ⟨w.heap.size, 0, none⟩ = some (.int .i64 0) := blk_cell O4.out.g.res 0; have x1 : U4.cell? ⟨w.heap.size, 1, none⟩ = some (.int .i64 0) := blk_cell O4.out.g.res 1; have x2 : U4.cell? ⟨w.heap.size, 2, none⟩ = some (.int .i64 0) := blk_cell O4.out.g.res 2; have x3 : U4.cell? ⟨w.heap.size, 3, none⟩ = some (.int .i64 0) := blk_cell O4.out.g.res 3; have x4 : U4.cell? ⟨w.heap.size, 4, none⟩ = some (.int .i64 0) := blk_cell O4.out.g.res 4; have f0 := blk_frozen O4.out.g.res 0; have f1 := blk_frozen O4.out.g.res 1; have f2 := blk_frozen O4.out.g.res 2; have f3 := blk_frozen O4.out.g.res 3; have f4 := blk_frozen O4.out.g.res 4
    go_wp2_with fail
    refine (bourneref1_OpMay.calls k 0 n1 n2 n3 n4 om _ hm.out).mono ?_
    rintro e V9 ⟨rfl, hb⟩
    have O9 := Aside0.mk (O4.out.step hb)
    clear hb O4 B8 hz hz2 ra rb
    clear y0 y1 y2 y3 y4 x0 x1 x2 x3 x4 f0 f1 f2 f3 f4
    have B9 := Aside0.mk O9.out.g.below
    have y0 : V9.cell? ⟨go, 0, none⟩ = some (.int .i64 _) := blk_cell O9.out.o 0; have y1 : V9.cell? ⟨go, 1, none⟩ = some (.int .i64 _) := blk_cell O9.out.o 1; have y2 : V9.cell? ⟨go, 2, none⟩ = some (.int .i64 _) := blk_cell O9.out.o 2; have y3 : V9.cell? ⟨go, 3, none⟩ = some (.int .i64 _) := blk_cell O9.out.o 3; have y4 : V9.cell? ⟨go, 4, none⟩ = some (.int .i64 _) := blk_cell O9.out.o 4; have x0 : V9.cell? ⟨w.heap.size, 0, none⟩ = some (.int .i64 0) := blk_cell O9.out.g.res 0; have x1 : V9.cell? ⟨w.heap.size, 1, none⟩ = some (.int .i64 0) := blk_cell O9.out.g.res 1; have x2 : V9.cell? ⟨w.heap.size, 2, none⟩ = some (.int .i64 0) := blk_cell O9.out.g.res 2; have x3 : V9.cell? ⟨w.heap.size, 3, none⟩ = some (.int .i64 0) := blk_cell O9.out.g.res 3; have x4 : V9.cell? ⟨w.heap.size, 4, none⟩ = some (.int .i64 0) := blk_cell O9.out.g.res 4; have f0 := blk_frozen O9.out.g.res 0; have f1 := blk_frozen O9.out.g.res 1; have f2 := blk_frozen O9.out.g.res 2; have f3 := blk_frozen O9.out.g.res 3; have f4 := blk_frozen O9.out.g.res 4
    have h := H.out
    clear H
    cases om with
     | false =>
     rw [if_neg (by decide)] at h
     obtain ⟨rfl, rfl, rfl, rfl, rfl, rfl⟩ : 0 = r1 ∧ 0 = r2 ∧ 0 = r3 ∧ 0 = r4 ∧ 0 = r5 ∧ 900 = r6 := by simpa only [Option.some.injEq, Prod.mk.injEq] using h
     clear h
     go_wp2_with fail
     (try simp only [Exit.inBlock, Exit.then]); refine bodyPost_ret (results_ct rfl _ _ w.heap.size 49 #[.int .i64 0, .int .i64 0, .int .i64 0, .int .i64 0, .int .i64 0] (0, 0) _ rfl (bourneref1_GetOp.res5 O9.out.g.res _ _ _ _ _) Try.underlying49 rfl (by kernel_rfl)) rfl ?_; exact ⟨by first | rfl | simp, by repeat (first | exact B9.out | refine below_set ?_ (Nat.le_refl _))⟩
     | true =>
     rw [if_pos rfl] at h
     obtain ⟨rfl, rfl, rfl, rfl, rfl, rfl⟩ : 0 = r1 ∧ n1 = r2 ∧ n2 = r3 ∧ n3 = r4 ∧ n4 = r5 ∧ 0 = r6 := by simpa only [Option.some.injEq, Prod.mk.injEq] using h
     clear h
     go_wp2_with fail
     (try simp only [Exit.inBlock, Exit.then]); refine bodyPost_ret (results_ct rfl _ _ w.heap.size 49 #[.int .i64 0, .int .i64 n1, .int .i64 n2, .int .i64 n3, .int .i64 n4] (0, 0) _ rfl (bourneref1_GetOp.res5 O9.out.g.res _ _ _ _ _) Try.underlying49 rfl (by kernel_rfl)) rfl ?_; exact ⟨by first | rfl | simp, by repeat (first | exact B9.out | refine below_set ?_ (Nat.le_refl _))⟩
 ·rw [if_neg (by decide), if_pos rfl] at hq
  obtain ⟨⟨n1, s1, p1, b1⟩, h1, hq⟩ := Option.bind_eq_some_iff.mp hq
  have H1 := Aside0.mk h1
  clear h1
  dsimp only at hq
  obtain ⟨⟨n2, s2, p2, b2⟩, h2, hq⟩ := Option.bind_eq_some_iff.mp hq
  have H2 := Aside0.mk h2
  clear h2
  dsimp only at hq
  obtain rfl := Option.some.inj hq
  clear hq
  go_enter Try.func46, Try.ntmps46
  go_wp2_with fail
  refine (bourneref1_Reader_Num.calls k _ a0 0 false 1 s0 p0 b0 w _ G2.out.rd G2.out.below H0.out).mono ?_
  rintro e W3 ⟨rfl, hI, hB, hK⟩
  have G3 := Aside0.mk (G2.out.num hI hB hK)
  clear hI hB hK G2
  go_wp2_with fail
  have O0 := Aside0.mk (bourneref1_GetOp.O.new G3.out 1)
  clear G3
  generalize hgo : W3.heap.size = go at *
  generalize W3.alloc _ = V0 at *
  clear hgo
  refine (bourneref1_Reader_Num.calls k _ s0 p0 b0 n1 s1 p1 b1 w _ O0.out.g.rd O0.out.g.below H1.out).mono ?_
  rintro e V1 ⟨rfl, hI, hB, hK⟩
  have P1 := Aside0.mk (O0.out.num hI hB hK)
  clear hI hB hK O0
  have z : V1.cell? ⟨go, 1, none⟩ = some (.int .i64 0) := blk_cell P1.out.o 1
  have f := blk_frozen P1.out.o 1
  go_wp2_with fail
  have O1 := Aside0.mk (P1.out.set1 n1)
  clear z f P1
  generalize V1.setCell ⟨go, 1, none⟩ (.int .i64 n1) = U1 at *
  refine (bourneref1_Reader_Num.calls k _ s1 p1 b1 n2 s2 p2 b2 w _ O1.out.g.rd O1.out.g.below H2.out).mono ?_
  rintro e V2 ⟨rfl, hI, hB, hK⟩
  have P2 := Aside0.mk (O1.out.num hI hB hK)
  clear hI hB hK O1
  have z : V2.cell? ⟨go, 3, none⟩ = some (.int .i64 0) := blk_cell P2.out.o 3
  have f := blk_frozen P2.out.o 3
  go_upto_region 12 with (fail)
  have O2 := Aside0.mk (P2.out.set3 n2)
  clear z f P2
  generalize V2.setCell ⟨go, 3, none⟩ (.int .i64 n2) = U2 at *
  have B8 := Aside0.mk O2.out.g.below
  have rb : U2.cell? ⟨_, 2, none⟩ = some (.bool b2) := blk_cell O2.out.g.rd.1 2
  have ra : U2.cell? ⟨_, 1, none⟩ = some (.int .i64 p2) := blk_cell O2.out.g.rd.1 1
  have h := H.out
  clear H
  (try dsimp only at h)
  cases b2 with
   | true =>
   rw [if_pos rfl] at h
   obtain ⟨rfl, rfl, rfl, rfl, rfl, rfl⟩ : 0 = r1 ∧ 0 = r2 ∧ 0 = r3 ∧ 0 = r4 ∧ 0 = r5 ∧ 900 = r6 := by simpa only [Option.some.injEq, Prod.mk.injEq] using h
   clear h
   have y0 : U2.cell? ⟨go, 0, none⟩ = some (.int .i64 _) := blk_cell O2.out.o 0; have y1 : U2.cell? ⟨go, 1, none⟩ = some (.int .i64 _) := blk_cell O2.out.o 1; have y2 : U2.cell? ⟨go, 2, none⟩ = some (.int .i64 _) := blk_cell O2.out.o 2; have y3 : U2.cell? ⟨go, 3, none⟩ = some (.int .i64 _) := blk_cell O2.out.o 3; have y4 : U2.cell? ⟨go, 4, none⟩ = some (.int .i64 _) := blk_cell O2.out.o 4; have x0 : U2.cell? ⟨w.heap.size, 0, none⟩ = some (.int .i64 0) := blk_cell O2.out.g.res 0; have x1 : U2.cell? ⟨w.heap.size, 1, none⟩ = some (.int .i64 0) := blk_cell O2.out.g.res 1; have x2 : U2.cell? ⟨w.heap.size, 2, none⟩ = some (.int .i64 0) := blk_cell O2.out.g.res 2; have x3 : U2.cell? ⟨w.heap.size, 3, none⟩ = some (.int .i64 0) := blk_cell O2.out.g.res 3; have x4 : U2.cell? ⟨w.heap.size, 4, none⟩ = some (.int .i64 0) := blk_cell O2.out.g.res 4; have f0 := blk_frozen O2.out.g.res 0; have f1 := blk_frozen O2.out.g.res 1; have f2 := blk_frozen O2.out.g.res 2; have f3 := blk_frozen O2.out.g.res 3; have f4 := blk_frozen O2.out.g.res 4
   go_wp2_with fail
   (try simp only [Exit.inBlock, Exit.then]); refine bodyPost_ret (results_ct rfl _ _ w.heap.size 49 #[.int .i64 0, .int .i64 0, .int .i64 0, .int .i64 0, .int .i64 0] (0, 0) _ rfl (bourneref1_GetOp.res5 O2.out.g.res _ _ _ _ _) Try.underlying49 rfl (by kernel_rfl)) rfl ?_; exact ⟨by first | rfl | simp, by repeat (first | exact B8.out | refine below_set ?_ (Nat.le_refl _))⟩
   | false =>
   rw [if_neg (by decide)] at h
   cases hz : (p2 == (a0.size : Int)) with
    | false =>
    rw [hz, if_neg (by decide)] at h
    obtain ⟨rfl, rfl, rfl, rfl, rfl, rfl⟩ : 0 = r1 ∧ 0 = r2 ∧ 0 = r3 ∧ 0 = r4 ∧ 0 = r5 ∧ 900 = r6 := by simpa only [Option.some.injEq, Prod.mk.injEq] using h
    clear h
    have hz2 : (p2 != (a0.size : Int)) = true := by rw [bne, hz]; rfl
    have y0 : U2.cell? ⟨go, 0, none⟩ = some (.int .i64 _) := blk_cell O2.out.o 0; have y1 : U2.cell? ⟨go, 1, none⟩ = some (.int .i64 _) := blk_cell O2.out.o 1; have y2 : U2.cell? ⟨go, 2, none⟩ = some (.int .i64 _) := blk_cell O2.out.o 2; have y3 : U2.cell? ⟨go, 3, none⟩ = some (.int .i64 _) := blk_cell O2.out.o 3; have y4 : U2.cell? ⟨go, 4, none⟩ = some (.int .i64 _) := blk_cell O2.out.o 4; have x0 : U2.cell? ⟨w.heap.size, 0, none⟩ = some (.int .i64 0) := blk_cell O2.out.g.res 0; have x1 : U2.cell? ⟨w.heap.size, 1, none⟩ = some (.int .i64 0) := blk_cell O2.out.g.res 1; have x2 : U2.cell? ⟨w.heap.size, 2, none⟩ = some (.int .i64 0) := blk_cell O2.out.g.res 2; have x3 : U2.cell? ⟨w.heap.size, 3, none⟩ = some (.int .i64 0) := blk_cell O2.out.g.res 3; have x4 : U2.cell? ⟨w.heap.size, 4, none⟩ = some (.int .i64 0) := blk_cell O2.out.g.res 4; have f0 := blk_frozen O2.out.g.res 0; have f1 := blk_frozen O2.out.g.res 1; have f2 := blk_frozen O2.out.g.res 2; have f3 := blk_frozen O2.out.g.res 3; have f4 := blk_frozen O2.out.g.res 4
    go_wp2_with fail
    (try simp only [Exit.inBlock, Exit.then]); refine bodyPost_ret (results_ct rfl _ _ w.heap.size 49 #[.int .i64 0, .int .i64 0, .int .i64 0, .int .i64 0, .int .i64 0] (0, 0) _ rfl (bourneref1_GetOp.res5 O2.out.g.res _ _ _ _ _) Try.underlying49 rfl (by kernel_rfl)) rfl ?_; exact ⟨by first | rfl | simp, by repeat (first | exact B8.out | refine below_set ?_ (Nat.le_refl _))⟩
    | true =>
    rw [hz, if_pos rfl] at h
    have hz2 : (p2 != (a0.size : Int)) = false := by rw [bne, hz]; rfl
    obtain ⟨om, hm1, h⟩ := Option.bind_eq_some_iff.mp h
    have hm := Aside0.mk hm1
    have H := Aside0.mk h
    clear hm1 h
    have y0 : U2.cell? ⟨go, 0, none⟩ = some (.int .i64 _) := blk_cell O2.out.o 0; have y1 : U2.cell? ⟨go, 1, none⟩ = some (.int .i64 _) := blk_cell O2.out.o 1; have y2 : U2.cell? ⟨go, 2, none⟩ = some (.int .i64 _) := blk_cell O2.out.o 2; have y3 : U2.cell? ⟨go, 3, none⟩ = some (.int .i64 _) := blk_cell O2.out.o 3; have y4 : U2.cell? ⟨go, 4, none⟩ = some (.int .i64 _) := blk_cell O2.out.o 4; have x0 : U2.cell? ⟨w.heap.size, 0, none⟩ = some (.int .i64 0) := blk_cell O2.out.g.res 0; have x1 : U2.cell? ⟨w.heap.size, 1, none⟩ = some (.int .i64 0) := blk_cell O2.out.g.res 1; have x2 : U2.cell? ⟨w.heap.size, 2, none⟩ = some (.int .i64 0) := blk_cell O2.out.g.res 2; have x3 : U2.cell? ⟨w.heap.size, 3, none⟩ = some (.int .i64 0) := blk_cell O2.out.g.res 3; have x4 : U2.cell? ⟨w.heap.size, 4, none⟩ = some (.int .i64 0) := blk_cell O2.out.g.res 4; have f0 := blk_frozen O2.out.g.res 0; have f1 := blk_frozen O2.out.g.res 1; have f2 := blk_frozen O2.out.g.res 2; have f3 := blk_frozen O2.out.g.res 3; have f4 := blk_frozen O2.out.g.res 4
    go_wp2_with fail
    refine (bourneref1_OpMay.calls k 1 n1 0 n2 0 om _ hm.out).mono ?_
    rintro e V9 ⟨rfl, hb⟩
    have O9 := Aside0.mk (O2.out.step hb)
    clear hb O2 B8 hz hz2 ra rb
    clear y0 y1 y2 y3 y4 x0 x1 x2 x3 x4 f0 f1 f2 f3 f4
    have B9 := Aside0.mk O9.out.g.below
    have y0 : V9.cell? ⟨go, 0, none⟩ = some (.int .i64 _) := blk_cell O9.out.o 0; have y1 : V9.cell? ⟨go, 1, none⟩ = some (.int .i64 _) := blk_cell O9.out.o 1; have y2 : V9.cell? ⟨go, 2, none⟩ = some (.int .i64 _) := blk_cell O9.out.o 2; have y3 : V9.cell? ⟨go, 3, none⟩ = some (.int .i64 _) := blk_cell O9.out.o 3; have y4 : V9.cell? ⟨go, 4, none⟩ = some (.int .i64 _) := blk_cell O9.out.o 4; have x0 : V9.cell? ⟨w.heap.size, 0, none⟩ = some (.int .i64 0) := blk_cell O9.out.g.res 0; have x1 : V9.cell? ⟨w.heap.size, 1, none⟩ = some (.int .i64 0) := blk_cell O9.out.g.res 1; have x2 : V9.cell? ⟨w.heap.size, 2, none⟩ = some (.int .i64 0) := blk_cell O9.out.g.res 2; have x3 : V9.cell? ⟨w.heap.size, 3, none⟩ = some (.int .i64 0) := blk_cell O9.out.g.res 3; have x4 : V9.cell? ⟨w.heap.size, 4, none⟩ = some (.int .i64 0) := blk_cell O9.out.g.res 4; have f0 := blk_frozen O9.out.g.res 0; have f1 := blk_frozen O9.out.g.res 1; have f2 := blk_frozen O9.out.g.res 2; have f3 := blk_frozen O9.out.g.res 3; have f4 := blk_frozen O9.out.g.res 4
    have h := H.out
    clear H
    cases om with
     | false =>
     rw [if_neg (by decide)] at h
     obtain ⟨rfl, rfl, rfl, rfl, rfl, rfl⟩ : 0 = r1 ∧ 0 = r2 ∧ 0 = r3 ∧ 0 = r4 ∧ 0 = r5 ∧ 900 = r6 := by simpa only [Option.some.injEq, Prod.mk.injEq] using h
     clear h
     go_wp2_with fail
     (try simp only [Exit.inBlock, Exit.then]); refine bodyPost_ret (results_ct rfl _ _ w.heap.size 49 #[.int .i64 0, .int .i64 0, .int .i64 0, .int .i64 0, .int .i64 0] (0, 0) _ rfl (bourneref1_GetOp.res5 O9.out.g.res _ _ _ _ _) Try.underlying49 rfl (by kernel_rfl)) rfl ?_; exact ⟨by first | rfl | simp, by repeat (first | exact B9.out | refine below_set ?_ (Nat.le_refl _))⟩
     | true =>
     rw [if_pos rfl] at h
     obtain ⟨rfl, rfl, rfl, rfl, rfl, rfl⟩ : 1 = r1 ∧ n1 = r2 ∧ 0 = r3 ∧ n2 = r4 ∧ 0 = r5 ∧ 0 = r6 := by simpa only [Option.some.injEq, Prod.mk.injEq] using h
     clear h
     go_wp2_with fail
     (try simp only [Exit.inBlock, Exit.then]); refine bodyPost_ret (results_ct rfl _ _ w.heap.size 49 #[.int .i64 1, .int .i64 n1, .int .i64 0, .int .i64 n2, .int .i64 0] (0, 0) _ rfl (bourneref1_GetOp.res5 O9.out.g.res _ _ _ _ _) Try.underlying49 rfl (by kernel_rfl)) rfl ?_; exact ⟨by first | rfl | simp, by repeat (first | exact B9.out | refine below_set ?_ (Nat.le_refl _))⟩
 ·rw [if_neg c0, if_neg c1] at hq
  have e0 : (n0 == 0) = false := beq_eq_false_iff_ne.2 c0
  have e1 : (n0 == 1) = false := beq_eq_false_iff_ne.2 c1
  clear c0 c1
  obtain rfl := Option.some.inj hq
  clear hq
  go_enter Try.func46, Try.ntmps46
  go_wp2_with fail
  refine (bourneref1_Reader_Num.calls k _ a0 0 false n0 s0 p0 b0 w _ G2.out.rd G2.out.below H0.out).mono ?_
  rintro e W3 ⟨rfl, hI, hB, hK⟩
  have G3 := Aside0.mk (G2.out.num hI hB hK)
  clear hI hB hK G2
  go_upto_region 12 with (fail)
  have O0 := Aside0.mk (bourneref1_GetOp.O.new G3.out n0)
  clear G3
  generalize hgo : W3.heap.size = go at *
  generalize W3.alloc _ = V0 at *
  clear hgo
  have B8 := Aside0.mk O0.out.g.below
  have rb : V0.cell? ⟨_, 2, none⟩ = some (.bool b0) := blk_cell O0.out.g.rd.1 2
  have ra : V0.cell? ⟨_, 1, none⟩ = some (.int .i64 p0) := blk_cell O0.out.g.rd.1 1
  have h := H.out
  clear H
  (try dsimp only at h)
  cases b0 with
   | true =>
   rw [if_pos rfl] at h
   obtain ⟨rfl, rfl, rfl, rfl, rfl, rfl⟩ : 0 = r1 ∧ 0 = r2 ∧ 0 = r3 ∧ 0 = r4 ∧ 0 = r5 ∧ 900 = r6 := by simpa only [Option.some.injEq, Prod.mk.injEq] using h
   clear h
   have y0 : V0.cell? ⟨go, 0, none⟩ = some (.int .i64 _) := blk_cell O0.out.o 0; have y1 : V0.cell? ⟨go, 1, none⟩ = some (.int .i64 _) := blk_cell O0.out.o 1; have y2 : V0.cell? ⟨go, 2, none⟩ = some (.int .i64 _) := blk_cell O0.out.o 2; have y3 : V0.cell? ⟨go, 3, none⟩ = some (.int .i64 _) := blk_cell O0.out.o 3; have y4 : V0.cell? ⟨go, 4, none⟩ = some (.int .i64 _) := blk_cell O0.out.o 4; have x0 : V0.cell? ⟨w.heap.size, 0, none⟩ = some (.int .i64 0) := blk_cell O0.out.g.res 0; have x1 : V0.cell? ⟨w.heap.size, 1, none⟩ = some (.int .i64 0) := blk_cell O0.out.g.res 1; have x2 : V0.cell? ⟨w.heap.size, 2, none⟩ = some (.int .i64 0) := blk_cell O0.out.g.res 2; have x3 : V0.cell? ⟨w.heap.size, 3, none⟩ = some (.int .i64 0) := blk_cell O0.out.g.res 3; have x4 : V0.cell? ⟨w.heap.size, 4, none⟩ = some (.int .i64 0) := blk_cell O0.out.g.res 4; have f0 := blk_frozen O0.out.g.res 0; have f1 := blk_frozen O0.out.g.res 1; have f2 := blk_frozen O0.out.g.res 2; have f3 := blk_frozen O0.out.g.res 3; have f4 := blk_frozen O0.out.g.res 4
   go_wp2_with fail
   (try simp only [Exit.inBlock, Exit.then]); refine bodyPost_ret (results_ct rfl _ _ w.heap.size 49 #[.int .i64 0, .int .i64 0, .int .i64 0, .int .i64 0, .int .i64 0] (0, 0) _ rfl (bourneref1_GetOp.res5 O0.out.g.res _ _ _ _ _) Try.underlying49 rfl (by kernel_rfl)) rfl ?_; exact ⟨by first | rfl | simp, by repeat (first | exact B8.out | refine below_set ?_ (Nat.le_refl _))⟩
   | false =>
   rw [if_neg (by decide)] at h
   cases hz : (p0 == (a0.size : Int)) with
    | false =>
    rw [hz, if_neg (by decide)] at h
    obtain ⟨rfl, rfl, rfl, rfl, rfl, rfl⟩ : 0 = r1 ∧ 0 = r2 ∧ 0 = r3 ∧ 0 = r4 ∧ 0 = r5 ∧ 900 = r6 := by simpa only [Option.some.injEq, Prod.mk.injEq] using h
    clear h
    have hz2 : (p0 != (a0.size : Int)) = true := by rw [bne, hz]; rfl
    have y0 : V0.cell? ⟨go, 0, none⟩ = some (.int .i64 _) := blk_cell O0.out.o 0; have y1 : V0.cell? ⟨go, 1, none⟩ = some (.int .i64 _) := blk_cell O0.out.o 1; have y2 : V0.cell? ⟨go, 2, none⟩ = some (.int .i64 _) := blk_cell O0.out.o 2; have y3 : V0.cell? ⟨go, 3, none⟩ = some (.int .i64 _) := blk_cell O0.out.o 3; have y4 : V0.cell? ⟨go, 4, none⟩ = some (.int .i64 _) := blk_cell O0.out.o 4; have x0 : V0.cell? ⟨w.heap.size, 0, none⟩ = some (.int .i64 0) := blk_cell O0.out.g.res 0; have x1 : V0.cell? ⟨w.heap.size, 1, none⟩ = some (.int .i64 0) := blk_cell O0.out.g.res 1; have x2 : V0.cell? ⟨w.heap.size, 2, none⟩ = some (.int .i64 0) := blk_cell O0.out.g.res 2; have x3 : V0.cell? ⟨w.heap.size, 3, none⟩ = some (.int .i64 0) := blk_cell O0.out.g.res 3; have x4 : V0.cell? ⟨w.heap.size, 4, none⟩ = some (.int .i64 0) := blk_cell O0.out.g.res 4; have f0 := blk_frozen O0.out.g.res 0; have f1 := blk_frozen O0.out.g.res 1; have f2 := blk_frozen O0.out.g.res 2; have f3 := blk_frozen O0.out.g.res 3; have f4 := blk_frozen O0.out.g.res 4
    go_wp2_with fail
    (try simp only [Exit.inBlock, Exit.then]); refine bodyPost_ret (results_ct rfl _ _ w.heap.size 49 #[.int .i64 0, .int .i64 0, .int .i64 0, .int .i64 0, .int .i64 0] (0, 0) _ rfl (bourneref1_GetOp.res5 O0.out.g.res _ _ _ _ _) Try.underlying49 rfl (by kernel_rfl)) rfl ?_; exact ⟨by first | rfl | simp, by repeat (first | exact B8.out | refine below_set ?_ (Nat.le_refl _))⟩
    | true =>
    rw [hz, if_pos rfl] at h
    have hz2 : (p0 != (a0.size : Int)) = false := by rw [bne, hz]; rfl
    obtain ⟨om, hm1, h⟩ := Option.bind_eq_some_iff.mp h
    have hm := Aside0.mk hm1
    have H := Aside0.mk h
    clear hm1 h
    have y0 : V0.cell? ⟨go, 0, none⟩ = some (.int .i64 _) := blk_cell O0.out.o 0; have y1 : V0.cell? ⟨go, 1, none⟩ = some (.int .i64 _) := blk_cell O0.out.o 1; have y2 : V0.cell? ⟨go, 2, none⟩ = some (.int .i64 _) := blk_cell O0.out.o 2; have y3 : V0.cell? ⟨go, 3, none⟩ = some (.int .i64 _) := blk_cell O0.out.o 3; have y4 : V0.cell? ⟨go, 4, none⟩ = some (.int .i64 _) := blk_cell O0.out.o 4; have x0 : V0.cell? ⟨w.heap.size, 0, none⟩ = some (.int .i64 0) := blk_cell O0.out.g.res 0; have x1 : V0.cell? ⟨w.heap.size, 1, none⟩ = some (.int .i64 0) := blk_cell O0.out.g.res 1; have x2 : V0.cell? ⟨w.heap.size, 2, none⟩ = some (.int .i64 0) := blk_cell O0.out.g.res 2; have x3 : V0.cell? ⟨w.heap.size, 3, none⟩ = some (.int .i64 0) := blk_cell O0.out.g.res 3; have x4 : V0.cell? ⟨w.heap.size, 4, none⟩ = some (.int .i64 0) := blk_cell O0.out.g.res 4; have f0 := blk_frozen O0.out.g.res 0; have f1 := blk_frozen O0.out.g.res 1; have f2 := blk_frozen O0.out.g.res 2; have f3 := blk_frozen O0.out.g.res 3; have f4 := blk_frozen O0.out.g.res 4
    go_wp2_with fail
    refine (bourneref1_OpMay.calls k n0 0 0 0 0 om _ hm.out).mono ?_
    rintro e V9 ⟨rfl, hb⟩
    have O9 := Aside0.mk (O0.out.step hb)
    clear hb O0 B8 hz hz2 ra rb
    clear y0 y1 y2 y3 y4 x0 x1 x2 x3 x4 f0 f1 f2 f3 f4
    have B9 := Aside0.mk O9.out.g.below
    have y0 : V9.cell? ⟨go, 0, none⟩ = some (.int .i64 _) := blk_cell O9.out.o 0; have y1 : V9.cell? ⟨go, 1, none⟩ = some (.int .i64 _) := blk_cell O9.out.o 1; have y2 : V9.cell? ⟨go, 2, none⟩ = some (.int .i64 _) := blk_cell O9.out.o 2; have y3 : V9.cell? ⟨go, 3, none⟩ = some (.int .i64 _) := blk_cell O9.out.o 3; have y4 : V9.cell? ⟨go, 4, none⟩ = some (.int .i64 _) := blk_cell O9.out.o 4; have x0 : V9.cell? ⟨w.heap.size, 0, none⟩ = some (.int .i64 0) := blk_cell O9.out.g.res 0; have x1 : V9.cell? ⟨w.heap.size, 1, none⟩ = some (.int .i64 0) := blk_cell O9.out.g.res 1; have x2 : V9.cell? ⟨w.heap.size, 2, none⟩ = some (.int .i64 0) := blk_cell O9.out.g.res 2; have x3 : V9.cell? ⟨w.heap.size, 3, none⟩ = some (.int .i64 0) := blk_cell O9.out.g.res 3; have x4 : V9.cell? ⟨w.heap.size, 4, none⟩ = some (.int .i64 0) := blk_cell O9.out.g.res 4; have f0 := blk_frozen O9.out.g.res 0; have f1 := blk_frozen O9.out.g.res 1; have f2 := blk_frozen O9.out.g.res 2; have f3 := blk_frozen O9.out.g.res 3; have f4 := blk_frozen O9.out.g.res 4
    have h := H.out
    clear H
    cases om with
     | false =>
     rw [if_neg (by decide)] at h
     obtain ⟨rfl, rfl, rfl, rfl, rfl, rfl⟩ : 0 = r1 ∧ 0 = r2 ∧ 0 = r3 ∧ 0 = r4 ∧ 0 = r5 ∧ 900 = r6 := by simpa only [Option.some.injEq, Prod.mk.injEq] using h
     clear h
     go_wp2_with fail
     (try simp only [Exit.inBlock, Exit.then]); refine bodyPost_ret (results_ct rfl _ _ w.heap.size 49 #[.int .i64 0, .int .i64 0, .int .i64 0, .int .i64 0, .int .i64 0] (0, 0) _ rfl (bourneref1_GetOp.res5 O9.out.g.res _ _ _ _ _) Try.underlying49 rfl (by kernel_rfl)) rfl ?_; exact ⟨by first | rfl | simp, by repeat (first | exact B9.out | refine below_set ?_ (Nat.le_refl _))⟩
     | true =>
     rw [if_pos rfl] at h
     obtain ⟨rfl, rfl, rfl, rfl, rfl, rfl⟩ : n0 = r1 ∧ 0 = r2 ∧ 0 = r3 ∧ 0 = r4 ∧ 0 = r5 ∧ 0 = r6 := by simpa only [Option.some.injEq, Prod.mk.injEq] using h
     clear h
     go_wp2_with fail
     (try simp only [Exit.inBlock, Exit.then]); refine bodyPost_ret (results_ct rfl _ _ w.heap.size 49 #[.int .i64 n0, .int .i64 0, .int .i64 0, .int .i64 0, .int .i64 0] (0, 0) _ rfl (bourneref1_GetOp.res5 O9.out.g.res _ _ _ _ _) Try.underlying49 rfl (by kernel_rfl)) rfl ?_; exact ⟨by first | rfl | simp, by repeat (first | exact B9.out | refine below_set ?_ (Nat.le_refl _))⟩

/-! ### bourneref1_here: function 39 -/
def bourneref1_here.f (k : Nat) (a0 : ByteArray) (a1 : Int) : Option (Int × Int × Int × Int × Int × Int × Bool × Bool) := (bourneref1_GetFrame.f k a0 a1).bind fun bt159 => (if bt159.2.2 = 0 then ((bourneref1_GetOp.f k bt159.1).bind fun bt162 => (some (bt162.1, bt162.2.1, bt162.2.2.1, bt162.2.2.2.1, bt162.2.2.2.2.1, bt159.2.1, (bt162.2.2.2.2.2 == 0), false))) else (some (0, 0, 0, 0, 0, 0, false, (bt159.2.2 == 801))))
theorem bourneref1_here.mono : ∀ a0 a1 k, LeO (bourneref1_here.f k a0 a1) (bourneref1_here.f (k + 1) a0 a1) := by
 intro a0 a1 k
 unfold bourneref1_here.f
 repeat' first
    | (with_reducible exact bourneref1_GetFrame.mono _ _ _)
    | (with_reducible exact bourneref1_GetOp.mono _ _)
    | (with_reducible exact LeO.refl _)
    | (with_reducible exact LeO.none _)
    | (with_reducible refine LeO.ite ?_ ?_)
    | (with_reducible refine LeO.bind ?_ (fun _ => ?_))
    | exact bourneref1_GetFrame.mono _ _ _
    | exact bourneref1_GetOp.mono _ _
    | exact LeO.none _
    | refine LeO.ite ?_ ?_
    | refine LeO.bind ?_ (fun _ => ?_)
set_option maxHeartbeats 8000000 in
set_option maxRecDepth 100000 in
theorem bourneref1_here.calls (k : Nat) (a0 : ByteArray) (a1 : Int) (r1 : Int) (r2 : Int) (r3 : Int) (r4 : Int) (r5 : Int) (r6 : Int) (r7 : Bool) (r8 : Bool) (w : World) (h : bourneref1_here.f k a0 a1 = some (r1, r2, r3, r4, r5, r6, r7, r8)) :
  Calls Try.prog 39 #[.string a0, .int .i64 a1] w fun e w' => e = .returned (.tuple #[.agg #[.int .i64 r1, .int .i64 r2, .int .i64 r3, .int .i64 r4, .int .i64 r5], .int .i64 r6, .bool r7, .bool r8]) ∧ Below w.heap.size w w' := by
 have hu49 := Try.underlying49
 have HB := Aside0.mk (Below.refl w.heap.size w)
 have H : ((bourneref1_GetFrame.f k a0 a1).bind fun bt159 => (if bt159.2.2 = 0 then ((bourneref1_GetOp.f k bt159.1).bind fun bt162 => (some (bt162.1, bt162.2.1, bt162.2.2.1, bt162.2.2.2.1, bt162.2.2.2.2.1, bt159.2.1, (bt162.2.2.2.2.2 == 0), false))) else (some (0, 0, 0, 0, 0, 0, false, (bt159.2.2 == 801))))) = some (r1, r2, r3, r4, r5, r6, r7, r8) := h
 clear h
 replace H := Option.bind_eq_some_iff.mp H
 obtain ⟨⟨t159, t160, t161⟩, A30, H⟩ := H
 replace H : (if t161 = 0 then ((bourneref1_GetOp.f k t159).bind fun bt162 => (some (bt162.1, bt162.2.1, bt162.2.2.1, bt162.2.2.2.1, bt162.2.2.2.2.1, t160, (bt162.2.2.2.2.2 == 0), false))) else (some (0, 0, 0, 0, 0, 0, false, (t161 == 801)))) = some (r1, r2, r3, r4, r5, r6, r7, r8) := H
 have A3 := Aside0.mk A30
 clear A30
 by_cases c4 : t161 = 0
 ·rw [if_pos c4] at H
  have c4b0 : (t161 == 0) = true := beq_iff_eq.mpr c4
  have c4b1 : (t161 != 0) = false := bne_eq_false_iff_eq.mpr c4
  clear c4
  replace H := Option.bind_eq_some_iff.mp H
  obtain ⟨⟨t162, t163, t164, t165, t166, t167⟩, A50, H⟩ := H
  replace H : (some (t162, t163, t164, t165, t166, t160, (t167 == 0), false)) = some (r1, r2, r3, r4, r5, r6, r7, r8) := H
  have A5 := Aside0.mk A50
  clear A50
  simp only [Option.some.injEq, Prod.mk.injEq] at H
  obtain ⟨rfl, rfl, rfl, rfl, rfl, rfl, rfl, rfl⟩ := H
  go_enter Try.func39, Try.ntmps39
  go_wp2_with (first | ((with_reducible refine gate_dst (N := 4) rfl ?_); refine box_event ?hg (N := 4) ?hd (cs := #[.int .i64 0, .int .i64 0, .int .i64 0, .int .i64 0, .int .i64 0]) (t := 49) ?hr ?_; (case hd => rfl); (case hg => rfl); (case hr => first | (go_simp; done) | (go_simp; rfl)); intro gb158 hg w6 hbox hb; have n0_ := Aside0.mk (below_step (by repeat (first | (with_reducible first | exact HB.out | apply below_alloc | apply pw_below_drewN | apply below_drew1) | exact HB.out)) hb); have n1_ := Aside0.mk (hbox); have n2_ := Aside0.mk ((by rw [hg]; exact (below_size (by repeat (first | (with_reducible first | exact HB.out | apply below_alloc | apply pw_below_drewN | apply below_drew1) | exact HB.out))) : w.heap.size ≤ gb158)); have n3_ := Aside0.mk ((by rw [hg]; exact (below_size (by repeat (first | (with_reducible first | exact HB.out | apply below_alloc | apply pw_below_drewN | apply below_drew1) | exact HB.out))) : w.heap.size ≤ gb158)); clear HB; have HB := n0_; have BK158 := n1_; have GW158 := n2_; have GE158 := n3_; clear n0_ n1_ n2_ n3_; clear hb hbox hg) | ((with_reducible refine gate_callee (f := 27) rfl ?_); refine goesL_ (some 16) rfl rfl Try.func27 (by kernel_rfl) rfl #[.string a0, .int .i64 a1] rfl (by (try simp only [List.map_toArray, List.map_cons, List.map_nil]); first | done | rfl | (simp only [List.length_drop, List.length_take]; rfl)) ?_; (with_reducible refine (bourneref1_GetFrame.calls k a0 a1 t159 t160 t161 _ A3.out).mono ?_); rintro e w' ⟨rfl, ⟨nd, rfl⟩⟩; refine ⟨_, rfl, ?_⟩; (try (rw [drewN_self w6]; generalize hq_ : World.drewN w6 _ = w6; have n0_ : Aside0 (w6.heap[gb158]? = some (.cells #[.int .i64 0, .int .i64 0, .int .i64 0, .int .i64 0, .int .i64 0] 49 (0, 0))) := ⟨by rw [← hq_]; exact (by (with_reducible repeat (first | refine blk_drewN ?_ _ | refine blk_drew ?_ | refine blk_alloc ?_ _)); exact BK158.out)⟩; have n1_ : Aside0 (Below w.heap.size w w6) := ⟨by rw [← hq_]; exact (by repeat (first | (with_reducible first | exact HB.out | apply below_alloc | apply pw_below_drewN | apply below_drew1 | refine below_set ?_ GE158.out) | exact HB.out))⟩; clear BK158 HB hq_; have BK158 := n0_; have HB := n1_; clear n0_ n1_))) | ((with_reducible refine gate_callee (f := 46) rfl ?_); refine goesL_ (some 27) rfl rfl Try.func46 (by kernel_rfl) rfl #[.string t159] rfl (by (try simp only [List.map_toArray, List.map_cons, List.map_nil]); first | done | rfl | (simp only [List.length_drop, List.length_take]; rfl)) ?_; (with_reducible refine (bourneref1_GetOp.calls k t159 t162 t163 t164 t165 t166 t167 _ A5.out).mono ?_); rintro e w7 ⟨rfl, hb⟩; refine ⟨_, rfl, ?_⟩; have n0_ := Aside0.mk (blk_below (g := gb158) (o := .cells #[.int .i64 0, .int .i64 0, .int .i64 0, .int .i64 0, .int .i64 0] 49 (0, 0)) (by (with_reducible repeat (first | refine blk_drewN ?_ _ | refine blk_drew ?_ | refine blk_alloc ?_ _)); exact BK158.out) hb); have n1_ := Aside0.mk (below_step (by repeat (first | (with_reducible first | exact HB.out | apply below_alloc | apply pw_below_drewN | apply below_drew1 | refine below_set ?_ GE158.out) | exact HB.out)) hb); clear BK158; clear HB; have BK158 := n0_; have HB := n1_; clear n0_ n1_; (try clear hb); (try clear hb2); (try clear hk); (try clear hi)) | ((with_reducible refine gate_dst (N := 11) rfl ?_); refine box_event ?hg (N := 11) ?hd (cs := #[.int .i64 0, .int .i64 0, .int .i64 0, .int .i64 0, .int .i64 0]) (t := 49) ?hr ?_; (case hd => rfl); (case hg => rfl); (case hr => first | (go_simp; done) | (go_simp; rfl)); intro gb168 hg w8 hbox hb; have n0_ := Aside0.mk (blk_below (g := gb158) (o := .cells #[.int .i64 0, .int .i64 0, .int .i64 0, .int .i64 0, .int .i64 0] 49 (0, 0)) (by (with_reducible repeat (first | refine blk_drewN ?_ _ | refine blk_drew ?_ | refine blk_alloc ?_ _)); exact BK158.out) hb); have n1_ := Aside0.mk (below_step (by repeat (first | (with_reducible first | exact HB.out | apply below_alloc | apply pw_below_drewN | apply below_drew1 | refine below_set ?_ GE158.out) | exact HB.out)) hb); have n2_ := Aside0.mk (hbox); have n3_ := Aside0.mk ((by rw [hg]; exact (below_size (by repeat (first | (with_reducible first | exact HB.out | apply below_alloc | apply pw_below_drewN | apply below_drew1 | refine below_set ?_ GE158.out) | exact HB.out))) : w.heap.size ≤ gb168)); have n4_ := Aside0.mk ((by rw [hg]; exact (below_size (by repeat (first | (with_reducible first | exact HB.out | apply below_alloc | apply pw_below_drewN | apply below_drew1 | refine below_set ?_ GE158.out) | exact HB.out))) : w.heap.size ≤ gb168)); have n5_ := Aside0.mk ((by rw [hg]; exact Nat.ne_of_lt (blk_lt (g := gb158) (o := .cells #[.int .i64 0, .int .i64 0, .int .i64 0, .int .i64 0, .int .i64 0] 49 (0, 0)) (by (with_reducible repeat (first | refine blk_drewN ?_ _ | refine blk_drew ?_ | refine blk_alloc ?_ _)); exact BK158.out)) : gb158 ≠ gb168)); have n6_ := Aside0.mk ((by rw [hg]; exact Nat.ne_of_gt (blk_lt (g := gb158) (o := .cells #[.int .i64 0, .int .i64 0, .int .i64 0, .int .i64 0, .int .i64 0] 49 (0, 0)) (by (with_reducible repeat (first | refine blk_drewN ?_ _ | refine blk_drew ?_ | refine blk_alloc ?_ _)); exact BK158.out)) : gb168 ≠ gb158)); clear BK158; clear HB; have BK158 := n0_; have HB := n1_; have BK168 := n2_; have GW168 := n3_; have GE168 := n4_; have NB158_168 := n5_; have NB168_158 := n6_; clear n0_ n1_ n2_ n3_ n4_ n5_ n6_; clear hb hbox hg; have hnb9 := NB168_158.out; have hnc9 := NB158_168.out; have hcz10_0 : w8.cell? ⟨gb168, 0, none⟩ = some (.int .i64 0) := (blk_cell BK168.out 0).trans rfl; have hcz10_1 : w8.cell? ⟨gb168, 1, none⟩ = some (.int .i64 0) := (blk_cell BK168.out 1).trans rfl; have hcz10_2 : w8.cell? ⟨gb168, 2, none⟩ = some (.int .i64 0) := (blk_cell BK168.out 2).trans rfl; have hcz10_3 : w8.cell? ⟨gb168, 3, none⟩ = some (.int .i64 0) := (blk_cell BK168.out 3).trans rfl; have hcz10_4 : w8.cell? ⟨gb168, 4, none⟩ = some (.int .i64 0) := (blk_cell BK168.out 4).trans rfl; have hfz10_0 := blk_frozen BK168.out 0; have hfz10_1 := blk_frozen BK168.out 1; have hfz10_2 := blk_frozen BK168.out 2; have hfz10_3 := blk_frozen BK168.out 3; have hfz10_4 := blk_frozen BK168.out 4; have hcz11_0 : w8.cell? ⟨gb158, 0, none⟩ = some (.int .i64 0) := (blk_cell BK158.out 0).trans rfl; have hcz11_1 : w8.cell? ⟨gb158, 1, none⟩ = some (.int .i64 0) := (blk_cell BK158.out 1).trans rfl; have hcz11_2 : w8.cell? ⟨gb158, 2, none⟩ = some (.int .i64 0) := (blk_cell BK158.out 2).trans rfl; have hcz11_3 : w8.cell? ⟨gb158, 3, none⟩ = some (.int .i64 0) := (blk_cell BK158.out 3).trans rfl; have hcz11_4 : w8.cell? ⟨gb158, 4, none⟩ = some (.int .i64 0) := (blk_cell BK158.out 4).trans rfl; have hfz11_0 := blk_frozen BK158.out 0; have hfz11_1 := blk_frozen BK158.out 1; have hfz11_2 := blk_frozen BK158.out 2; have hfz11_3 := blk_frozen BK158.out 3; have hfz11_4 := blk_frozen BK158.out 4))
  refine bodyPost_ret (results_list (rs := [.cell 4 49, .tmp 5, .tmp 6, .tmp 7]) rfl (by simp) (.cell gb158 49 #[.int .i64 t162, .int .i64 t163, .int .i64 t164, .int .i64 t165, .int .i64 t166] (0, 0) _ rfl (by (with_reducible repeat (first | refine blk_drewN ?_ _ | refine blk_drew ?_ | refine blk_alloc ?_ _)); refine blk_put (cs := #[.int .i64 t162, .int .i64 t163, .int .i64 t164, .int .i64 t165, .int .i64 0]) ?_ 4 _ rfl; (with_reducible repeat (first | refine blk_drewN ?_ _ | refine blk_drew ?_ | refine blk_alloc ?_ _)); refine blk_put (cs := #[.int .i64 t162, .int .i64 t163, .int .i64 t164, .int .i64 0, .int .i64 0]) ?_ 3 _ rfl; (with_reducible repeat (first | refine blk_drewN ?_ _ | refine blk_drew ?_ | refine blk_alloc ?_ _)); refine blk_put (cs := #[.int .i64 t162, .int .i64 t163, .int .i64 0, .int .i64 0, .int .i64 0]) ?_ 2 _ rfl; (with_reducible repeat (first | refine blk_drewN ?_ _ | refine blk_drew ?_ | refine blk_alloc ?_ _)); refine blk_put (cs := #[.int .i64 t162, .int .i64 0, .int .i64 0, .int .i64 0, .int .i64 0]) ?_ 1 _ rfl; (with_reducible repeat (first | refine blk_drewN ?_ _ | refine blk_drew ?_ | refine blk_alloc ?_ _)); refine blk_put (cs := #[.int .i64 0, .int .i64 0, .int .i64 0, .int .i64 0, .int .i64 0]) ?_ 0 _ rfl; (with_reducible repeat (first | refine blk_drewN ?_ _ | refine blk_drew ?_ | refine blk_alloc ?_ _)); refine blk_far ?_ NB158_168.out _; (with_reducible repeat (first | refine blk_drewN ?_ _ | refine blk_drew ?_ | refine blk_alloc ?_ _)); refine blk_far ?_ NB158_168.out _; (with_reducible repeat (first | refine blk_drewN ?_ _ | refine blk_drew ?_ | refine blk_alloc ?_ _)); refine blk_far ?_ NB158_168.out _; (with_reducible repeat (first | refine blk_drewN ?_ _ | refine blk_drew ?_ | refine blk_alloc ?_ _)); refine blk_far ?_ NB158_168.out _; (with_reducible repeat (first | refine blk_drewN ?_ _ | refine blk_drew ?_ | refine blk_alloc ?_ _)); refine blk_far ?_ NB158_168.out _; (with_reducible repeat (first | refine blk_drewN ?_ _ | refine blk_drew ?_ | refine blk_alloc ?_ _)); exact BK158.out) Try.underlying49 rfl (by kernel_rfl) (.tmp (.tmp (.tmp .nil))))) rfl ?_
  exact ⟨by first | rfl | (simp [errW_none, errW_some] <;> rfl) | (simp [*, errW_none, errW_some] <;> rfl), by repeat (first | (with_reducible first | exact HB.out | apply below_alloc | apply pw_below_drewN | apply below_drew1 | refine below_set ?_ GE158.out | refine below_set ?_ GE168.out) | exact HB.out)⟩
 ·rw [if_neg c4] at H
  have c4b0 : (t161 == 0) = false := beq_eq_false_iff_ne.mpr c4
  have c4b1 : (t161 != 0) = true := bne_iff_ne.mpr c4
  simp only [Option.some.injEq, Prod.mk.injEq] at H
  obtain ⟨rfl, rfl, rfl, rfl, rfl, rfl, rfl, rfl⟩ := H
  go_enter Try.func39, Try.ntmps39
  go_wp2_with (first | ((with_reducible refine gate_dst (N := 4) rfl ?_); refine box_event ?hg (N := 4) ?hd (cs := #[.int .i64 0, .int .i64 0, .int .i64 0, .int .i64 0, .int .i64 0]) (t := 49) ?hr ?_; (case hd => rfl); (case hg => rfl); (case hr => first | (go_simp; done) | (go_simp; rfl)); intro gb158 hg w12 hbox hb; have n0_ := Aside0.mk (below_step (by repeat (first | (with_reducible first | exact HB.out | apply below_alloc | apply pw_below_drewN | apply below_drew1) | exact HB.out)) hb); have n1_ := Aside0.mk (hbox); have n2_ := Aside0.mk ((by rw [hg]; exact (below_size (by repeat (first | (with_reducible first | exact HB.out | apply below_alloc | apply pw_below_drewN | apply below_drew1) | exact HB.out))) : w.heap.size ≤ gb158)); have n3_ := Aside0.mk ((by rw [hg]; exact (below_size (by repeat (first | (with_reducible first | exact HB.out | apply below_alloc | apply pw_below_drewN | apply below_drew1) | exact HB.out))) : w.heap.size ≤ gb158)); clear HB; have HB := n0_; have BK158 := n1_; have GW158 := n2_; have GE158 := n3_; clear n0_ n1_ n2_ n3_; clear hb hbox hg) | ((with_reducible refine gate_callee (f := 27) rfl ?_); refine goesL_ (some 16) rfl rfl Try.func27 (by kernel_rfl) rfl #[.string a0, .int .i64 a1] rfl (by (try simp only [List.map_toArray, List.map_cons, List.map_nil]); first | done | rfl | (simp only [List.length_drop, List.length_take]; rfl)) ?_; (with_reducible refine (bourneref1_GetFrame.calls k a0 a1 t159 t160 t161 _ A3.out).mono ?_); rintro e w' ⟨rfl, ⟨nd, rfl⟩⟩; refine ⟨_, rfl, ?_⟩; (try (rw [drewN_self w12]; generalize hq_ : World.drewN w12 _ = w12; have n0_ : Aside0 (w12.heap[gb158]? = some (.cells #[.int .i64 0, .int .i64 0, .int .i64 0, .int .i64 0, .int .i64 0] 49 (0, 0))) := ⟨by rw [← hq_]; exact (by (with_reducible repeat (first | refine blk_drewN ?_ _ | refine blk_drew ?_ | refine blk_alloc ?_ _)); exact BK158.out)⟩; have n1_ : Aside0 (Below w.heap.size w w12) := ⟨by rw [← hq_]; exact (by repeat (first | (with_reducible first | exact HB.out | apply below_alloc | apply pw_below_drewN | apply below_drew1 | refine below_set ?_ GE158.out) | exact HB.out))⟩; clear BK158 HB hq_; have BK158 := n0_; have HB := n1_; clear n0_ n1_)); have hcz13_0 : w12.cell? ⟨gb158, 0, none⟩ = some (.int .i64 0) := (blk_cell BK158.out 0).trans rfl; have hcz13_1 : w12.cell? ⟨gb158, 1, none⟩ = some (.int .i64 0) := (blk_cell BK158.out 1).trans rfl; have hcz13_2 : w12.cell? ⟨gb158, 2, none⟩ = some (.int .i64 0) := (blk_cell BK158.out 2).trans rfl; have hcz13_3 : w12.cell? ⟨gb158, 3, none⟩ = some (.int .i64 0) := (blk_cell BK158.out 3).trans rfl; have hcz13_4 : w12.cell? ⟨gb158, 4, none⟩ = some (.int .i64 0) := (blk_cell BK158.out 4).trans rfl; have hfz13_0 := blk_frozen BK158.out 0; have hfz13_1 := blk_frozen BK158.out 1; have hfz13_2 := blk_frozen BK158.out 2; have hfz13_3 := blk_frozen BK158.out 3; have hfz13_4 := blk_frozen BK158.out 4))
  refine bodyPost_ret (results_list (rs := [.cell 4 49, .tmp 5, .tmp 6, .tmp 7]) rfl (by simp) (.cell gb158 49 #[.int .i64 0, .int .i64 0, .int .i64 0, .int .i64 0, .int .i64 0] (0, 0) _ rfl (by (with_reducible repeat (first | refine blk_drewN ?_ _ | refine blk_drew ?_ | refine blk_alloc ?_ _)); refine blk_put (cs := #[.int .i64 0, .int .i64 0, .int .i64 0, .int .i64 0, .int .i64 0]) ?_ 4 _ rfl; (with_reducible repeat (first | refine blk_drewN ?_ _ | refine blk_drew ?_ | refine blk_alloc ?_ _)); refine blk_put (cs := #[.int .i64 0, .int .i64 0, .int .i64 0, .int .i64 0, .int .i64 0]) ?_ 3 _ rfl; (with_reducible repeat (first | refine blk_drewN ?_ _ | refine blk_drew ?_ | refine blk_alloc ?_ _)); refine blk_put (cs := #[.int .i64 0, .int .i64 0, .int .i64 0, .int .i64 0, .int .i64 0]) ?_ 2 _ rfl; (with_reducible repeat (first | refine blk_drewN ?_ _ | refine blk_drew ?_ | refine blk_alloc ?_ _)); refine blk_put (cs := #[.int .i64 0, .int .i64 0, .int .i64 0, .int .i64 0, .int .i64 0]) ?_ 1 _ rfl; (with_reducible repeat (first | refine blk_drewN ?_ _ | refine blk_drew ?_ | refine blk_alloc ?_ _)); refine blk_put (cs := #[.int .i64 0, .int .i64 0, .int .i64 0, .int .i64 0, .int .i64 0]) ?_ 0 _ rfl; (with_reducible repeat (first | refine blk_drewN ?_ _ | refine blk_drew ?_ | refine blk_alloc ?_ _)); exact BK158.out) Try.underlying49 rfl (by kernel_rfl) (.tmp (.tmp (.tmp .nil))))) rfl ?_
  exact ⟨by first | rfl | (simp [errW_none, errW_some] <;> rfl) | (simp [*, errW_none, errW_some] <;> rfl), by repeat (first | (with_reducible first | exact HB.out | apply below_alloc | apply pw_below_drewN | apply below_drew1 | refine below_set ?_ GE158.out) | exact HB.out)⟩

/-! ### bourneref1_Scanner_walk: function 29 -/
mutual
def bourneref1_Scanner_walk.l0 : Nat → Bool → List (S49) → Int → ByteArray → Int → Option ((List (S49)) × ByteArray × Int)
  | 0, _, _, _, _, _ => none
  | k + 1, x1, x5, x6, x1000, x1001 => if x6 < (x1000.size : Int) then ((bourneref1_here.f k x1000 x6).bind fun bt169 => (if bt169.2.2.2.2.2.2.2 = true then (bourneref1_Scanner_walk.j1 k x1 x5 x6 bt169.2.2.2.2.2.1 bt169.2.2.2.2.2.2.1 (!x1) x1000 x1001 bt169.1 bt169.2.1 bt169.2.2.1 bt169.2.2.2.1 bt169.2.2.2.2.1) else (bourneref1_Scanner_walk.j1 k x1 x5 x6 bt169.2.2.2.2.2.1 bt169.2.2.2.2.2.2.1 false x1000 x1001 bt169.1 bt169.2.1 bt169.2.2.1 bt169.2.2.2.1 bt169.2.2.2.2.1))) else (if 0 ≤ x6 then (if x6 ≤ (x1000.size : Int) then (some (x5, x1000.extract (x6 : Int).toNat x1000.size, x1001)) else (none)) else (none))
def bourneref1_Scanner_walk.j1 : Nat → Bool → List (S49) → Int → Int → Bool → Bool → ByteArray → Int → Int → Int → Int → Int → Int → Option ((List (S49)) × ByteArray × Int)
  | 0, _, _, _, _, _, _, _, _, _, _, _, _, _ => none
  | k + 1, x1, x5, x6, x8, x9, x33, x1000, x1001, x178000, x178001, x178002, x178003, x178004 => if x33 = true then (if 0 ≤ x6 then (if x6 ≤ (x1000.size : Int) then (some (x5, x1000.extract (x6 : Int).toNat x1000.size, x1001)) else (none)) else (none)) else (if x9 = true then ((bourneref1_Scanner_bad.f x1000 x1001).bind fun bt178 => (if x5.length + bt178.1.length < 3518437208883 then ((some (x5 ++ bt178.1 : List (S49))).bind fun y183 => (if y183.length < 3518437208883 then (bourneref1_Scanner_walk.l0 k x1 (y183 ++ [(⟨x178000, x178001, x178002, x178003, x178004⟩ : S49)]) x8 bt178.2.1 bt178.2.2) else (none))) else (none))) else (bourneref1_Scanner_walk.l0 k x1 x5 (wrap64 (x6 + 1)) x1000 (mn (wrap64 (x1001 + 1)) 1073741823)))
end
def bourneref1_Scanner_walk.f (k : Nat) (s0_0 : ByteArray) (s0_1 : Int) (a1 : Bool) : Option ((List (S49)) × ByteArray × Int) := bourneref1_Scanner_walk.l0 k a1 ([] : List (S49)) 0 s0_0 s0_1
theorem bourneref1_Scanner_walk.mono_l : ∀ k, (∀ y0 y1 y2 y3 y4, LeO (bourneref1_Scanner_walk.l0 k y0 y1 y2 y3 y4) (bourneref1_Scanner_walk.l0 (k + 1) y0 y1 y2 y3 y4)) ∧ (∀ y0 y1 y2 y3 y4 y5 y6 y7 y8 y9 y10 y11 y12, LeO (bourneref1_Scanner_walk.j1 k y0 y1 y2 y3 y4 y5 y6 y7 y8 y9 y10 y11 y12) (bourneref1_Scanner_walk.j1 (k + 1) y0 y1 y2 y3 y4 y5 y6 y7 y8 y9 y10 y11 y12))
 | 0 => ⟨fun _ _ _ _ _ r h => by simp [bourneref1_Scanner_walk.l0] at h, fun _ _ _ _ _ _ _ _ _ _ _ _ _ r h => by simp [bourneref1_Scanner_walk.j1] at h⟩
 | k + 1 => by
  obtain ⟨ih0, ih1⟩ := bourneref1_Scanner_walk.mono_l k
  refine ⟨?_, ?_⟩
  ·intro y0 y1 y2 y3 y4
   unfold bourneref1_Scanner_walk.l0
   repeat' first
    | (with_reducible exact ih0 _ _ _ _ _)
    | (with_reducible exact ih1 _ _ _ _ _ _ _ _ _ _ _ _ _)
    | (with_reducible exact bourneref1_here.mono _ _ _)
    | (with_reducible exact LeO.refl _)
    | (with_reducible exact LeO.none _)
    | (with_reducible refine LeO.ite ?_ ?_)
    | (with_reducible refine LeO.bind ?_ (fun _ => ?_))
    | exact ih0 _ _ _ _ _
    | exact ih1 _ _ _ _ _ _ _ _ _ _ _ _ _
    | exact bourneref1_here.mono _ _ _
    | exact LeO.none _
    | refine LeO.ite ?_ ?_
    | refine LeO.bind ?_ (fun _ => ?_)
  ·intro y0 y1 y2 y3 y4 y5 y6 y7 y8 y9 y10 y11 y12
   unfold bourneref1_Scanner_walk.j1
   repeat' first
    | (with_reducible exact ih0 _ _ _ _ _)
    | (with_reducible exact ih1 _ _ _ _ _ _ _ _ _ _ _ _ _)
    | (with_reducible exact bourneref1_here.mono _ _ _)
    | (with_reducible exact LeO.refl _)
    | (with_reducible exact LeO.none _)
    | (with_reducible refine LeO.ite ?_ ?_)
    | (with_reducible refine LeO.bind ?_ (fun _ => ?_))
    | exact ih0 _ _ _ _ _
    | exact ih1 _ _ _ _ _ _ _ _ _ _ _ _ _
    | exact bourneref1_here.mono _ _ _
    | exact LeO.none _
    | refine LeO.ite ?_ ?_
    | refine LeO.bind ?_ (fun _ => ?_)
theorem bourneref1_Scanner_walk.mono : ∀ a0 a1 a2 k, LeO (bourneref1_Scanner_walk.f k a0 a1 a2) (bourneref1_Scanner_walk.f (k + 1) a0 a1 a2) := by
 intro a0 a1 a2 k
 obtain ⟨ih0, ih1⟩ := bourneref1_Scanner_walk.mono_l k
 unfold bourneref1_Scanner_walk.f
 repeat' first
    | (with_reducible exact ih0 _ _ _ _ _)
    | (with_reducible exact ih1 _ _ _ _ _ _ _ _ _ _ _ _ _)
    | (with_reducible exact bourneref1_here.mono _ _ _)
    | (with_reducible exact LeO.refl _)
    | (with_reducible exact LeO.none _)
    | (with_reducible refine LeO.ite ?_ ?_)
    | (with_reducible refine LeO.bind ?_ (fun _ => ?_))
    | exact ih0 _ _ _ _ _
    | exact ih1 _ _ _ _ _ _ _ _ _ _ _ _ _
    | exact bourneref1_here.mono _ _ _
    | exact LeO.none _
    | refine LeO.ite ?_ ?_
    | refine LeO.bind ?_ (fun _ => ?_)
set_option maxHeartbeats 8000000 in
set_option maxRecDepth 100000 in
theorem bourneref1_Scanner_walk.calls (k : Nat) (g : Nat) (s0_0 : ByteArray) (s0_1 : Int) (a1 : Bool) (r1 : List (S49)) (r2 : ByteArray) (r3 : Int) (w0 w : World) (hI : IsS27 w0 w g s0_0 s0_1) (hB : Below w0.heap.size w0 w) (h : bourneref1_Scanner_walk.f k s0_0 s0_1 a1 = some (r1, r2, r3)) :
  Calls Try.prog 29 #[.pointer (some ⟨g, 0, none⟩), .bool a1] w fun e w' => ∃ v0_ : Value, e = .returned (v0_) ∧ Kd.R k49 49 w' w.heap.size (fun _ => True) v0_ r1 ∧ IsS27 w0 w' g r2 r3 ∧ Below w0.heap.size w0 w' ∧ KeepBut w w' g none := by
 have hu49 := Try.underlying49
 have HI0 := Aside0.mk hI
 have HK := Aside0.mk (KeepBut.refl w g none)
 have HL := Aside0.mk hB.size
 clear hI
 have HW0 := Aside0.mk hB.size
 have HB := Aside0.mk hB
 clear hB
 have H : (bourneref1_Scanner_walk.l0 k a1 ([] : List (S49)) 0 s0_0 s0_1) = some (r1, r2, r3) := h
 clear h
 have H' := Aside0.mk H
 clear H
 go_enter Try.func29, Try.ntmps29
 go_wp2
 go_loopg [5, 6] k (fun kq v5 v6 w' => ∃ (x5_1 : List (S49)) (x6_1 : Int) (x1000_1 : ByteArray) (x1001_1 : Int), v6 = .int .i64 x6_1 ∧ Aside0 (bourneref1_Scanner_walk.l0 kq a1 x5_1 x6_1 x1000_1 x1001_1 = some (r1, r2, r3)) ∧ Aside0 (kq ≤ k) ∧ Aside0 (Kd.R k49 49 w' w.heap.size (fun _ => True) v5 x5_1) ∧ Aside0 (IsS27 w0 w' g x1000_1 x1001_1) ∧ Aside0 (KeepBut w w' g none) ∧ Aside0 (Below w0.heap.size w0 w'))
 case atStart => exact ⟨(([] : List (S49))), (0), (s0_0), (s0_1), (by first | rfl | (simp; done) | (simp [*]; done)), H', ⟨Nat.le_refl _⟩, ⟨by first | exact Kd.R_nil _ _ _ _ _ | exact Kd.N_nil _ _ _ _ _ | exact Kd.V_nil _ _ _ _ _ | exact Kd.Q_nil _ _ _ _ _ | exact Kd.S_nil _ _ _ _ _⟩, ⟨by repeat (first | (with_reducible first | exact HI0.out | apply IsS27.alloc | apply IsS27.drewN | apply IsS27.drew | apply IsS27.set_0 | apply IsS27.set_1) | exact HI0.out)⟩, ⟨by repeat (first | (with_reducible first | exact HK.out | apply KeepBut.set_ | apply keep_drewN | apply keep_drew | apply keep_alloc) | exact HK.out)⟩, ⟨by repeat (first | (with_reducible first | exact HB.out | apply below_alloc | apply pw_below_drewN | apply below_drew1 | refine below_set ?_ (IsS27.ge HI0.out)) | exact HB.out)⟩⟩
 case round =>
  clear H'
  try clear c2
  try clear p2
  obtain ⟨x5_1, x6_1, x1000_1, x1001_1, rfl, HA, HK1, HO_5, HI0, HK, HB⟩ := hrel
  cases gk with
  | zero => exact absurd HA.out (by simp [bourneref1_Scanner_walk.l0])
   | succ k1 =>
   have H := HA.out
   clear HA
   simp only [bourneref1_Scanner_walk.l0] at H
   by_cases c3 : x6_1 < (x1000_1.size : Int)
   ·rw [if_pos c3] at H
    have c3b0 : decide (x6_1 < (x1000_1.size : Int)) = true := decide_eq_true c3
    clear c3
    replace H := Option.bind_eq_some_iff.mp H
    obtain ⟨⟨t169, t170, t171, t172, t173, t174, t175, t176⟩, A40, H⟩ := H
    replace H : (if t176 = true then (bourneref1_Scanner_walk.j1 k1 a1 x5_1 x6_1 t174 t175 (!a1) x1000_1 x1001_1 t169 t170 t171 t172 t173) else (bourneref1_Scanner_walk.j1 k1 a1 x5_1 x6_1 t174 t175 false x1000_1 x1001_1 t169 t170 t171 t172 t173)) = some (r1, r2, r3) := H
    have A4 := Aside0.mk A40
    clear A40
    have HC5 := Aside0.mk H
    clear H
    obtain ⟨HGz6, hgz6⟩ := HI0.out
    have hcz6_0 := cellS27_0 HGz6
    have hcz6_1 := cellS27_1 HGz6
    have hfz6_0 := blk_frozen HGz6 0
    have hfz6_1 := blk_frozen HGz6 1
    clear HGz6 hgz6
    go_upto_region 5 with (first | ((with_reducible refine gate_callee (f := 39) rfl ?_); refine goesL_ (some 24) rfl rfl Try.func39 (by kernel_rfl) rfl #[.string x1000_1, .int .i64 x6_1] rfl (by (try simp only [List.map_toArray, List.map_cons, List.map_nil]); first | done | rfl | (simp only [List.length_drop, List.length_take]; rfl)) ?_; (with_reducible refine (bourneref1_here.calls k1 x1000_1 x6_1 t169 t170 t171 t172 t173 t174 t175 t176 _ A4.out).mono ?_); rintro e w7 ⟨rfl, hb⟩; refine ⟨_, rfl, ?_⟩; have n0_ := Aside0.mk (Kd.R_below (by (with_reducible repeat (first | apply Kd.R_alloc | apply Kd.R_drewN | apply Kd.R_drew)); exact HO_5.out) hb); have n1_ := Aside0.mk (IsS27.below (by repeat (first | (with_reducible first | exact HI0.out | apply IsS27.alloc | apply IsS27.drewN | apply IsS27.drew | apply IsS27.set_0 | apply IsS27.set_1) | exact HI0.out)) hb); have n2_ := Aside0.mk (KeepBut.trans (by repeat (first | (with_reducible first | exact HK.out | apply KeepBut.set_ | apply keep_drewN | apply keep_drew | apply keep_alloc) | exact HK.out)) (KeepBut.of_below hb g none) (.inl rfl)); have n3_ := Aside0.mk (below_step (by repeat (first | (with_reducible first | exact HB.out | apply below_alloc | apply pw_below_drewN | apply below_drew1 | refine below_set ?_ (IsS27.ge HI0.out)) | exact HB.out)) hb); clear HO_5; clear HI0; clear HK; clear HB; have HO_5 := n0_; have HI0 := n1_; have HK := n2_; have HB := n3_; clear n0_ n1_ n2_ n3_; (try clear hb); (try clear hb2); (try clear hk); (try clear hi)) | ((with_reducible refine gate_dst (N := 7) rfl ?_); refine box_event ?hg (N := 7) ?hd (cs := #[.int .i64 0, .int .i64 0, .int .i64 0, .int .i64 0, .int .i64 0]) (t := 49) ?hr ?_; (case hd => rfl); (case hg => rfl); (case hr => first | (go_simp; done) | (go_simp; rfl)); intro gb177 hg w8 hbox hb; have n0_ := Aside0.mk (Kd.R_below (Kd.R_elderB (by (with_reducible repeat (first | apply Kd.R_alloc | apply Kd.R_drewN | apply Kd.R_drew)); exact HO_5.out) gb177 (Nat.le_of_eq hg.symm)) hb); have n1_ := Aside0.mk (IsS27.below (by repeat (first | (with_reducible first | exact HI0.out | apply IsS27.alloc | apply IsS27.drewN | apply IsS27.drew | apply IsS27.set_0 | apply IsS27.set_1) | exact HI0.out)) hb); have n2_ := Aside0.mk (KeepBut.trans (by repeat (first | (with_reducible first | exact HK.out | apply KeepBut.set_ | apply keep_drewN | apply keep_drew | apply keep_alloc) | exact HK.out)) (KeepBut.of_below hb g none) (.inl rfl)); have n3_ := Aside0.mk (below_step (by repeat (first | (with_reducible first | exact HB.out | apply below_alloc | apply pw_below_drewN | apply below_drew1 | refine below_set ?_ (IsS27.ge HI0.out)) | exact HB.out)) hb); have n4_ := Aside0.mk (hbox); have n5_ := Aside0.mk ((by rw [hg]; exact (keep_size (w := w) (g := g) (row := none) (by repeat (first | (with_reducible first | exact HK.out | apply KeepBut.set_ | apply keep_drewN | apply keep_drew | apply keep_alloc) | exact HK.out))) : w.heap.size ≤ gb177)); have n6_ := Aside0.mk ((Nat.le_trans HW0.out (by rw [hg]; exact (keep_size (w := w) (g := g) (row := none) (by repeat (first | (with_reducible first | exact HK.out | apply KeepBut.set_ | apply keep_drewN | apply keep_drew | apply keep_alloc) | exact HK.out))) : w.heap.size ≤ gb177) : w0.heap.size ≤ gb177)); have n7_ := Aside0.mk ((by rw [hg]; exact Nat.ne_of_lt (IsS27.lt (show IsS27 w0 _ g x1000_1 x1001_1 from by repeat (first | (with_reducible first | exact HI0.out | apply IsS27.alloc | apply IsS27.drewN | apply IsS27.drew | apply IsS27.set_0 | apply IsS27.set_1) | exact HI0.out))) : g ≠ gb177)); have n8_ := Aside0.mk ((by rw [hg]; exact Nat.ne_of_gt (IsS27.lt (show IsS27 w0 _ g x1000_1 x1001_1 from by repeat (first | (with_reducible first | exact HI0.out | apply IsS27.alloc | apply IsS27.drewN | apply IsS27.drew | apply IsS27.set_0 | apply IsS27.set_1) | exact HI0.out))) : gb177 ≠ g)); clear HO_5; clear HI0; clear HK; clear HB; have HO_5 := n0_; have HI0 := n1_; have HK := n2_; have HB := n3_; have BK177 := n4_; have GW177 := n5_; have GE177 := n6_; have NB0_177 := n7_; have NB177_0 := n8_; clear n0_ n1_ n2_ n3_ n4_ n5_ n6_ n7_ n8_; clear hb hbox hg; have hnb9 := NB177_0.out; have hnc9 := NB0_177.out; have hcz10_0 : w8.cell? ⟨gb177, 0, none⟩ = some (.int .i64 0) := (blk_cell BK177.out 0).trans rfl; have hcz10_1 : w8.cell? ⟨gb177, 1, none⟩ = some (.int .i64 0) := (blk_cell BK177.out 1).trans rfl; have hcz10_2 : w8.cell? ⟨gb177, 2, none⟩ = some (.int .i64 0) := (blk_cell BK177.out 2).trans rfl; have hcz10_3 : w8.cell? ⟨gb177, 3, none⟩ = some (.int .i64 0) := (blk_cell BK177.out 3).trans rfl; have hcz10_4 : w8.cell? ⟨gb177, 4, none⟩ = some (.int .i64 0) := (blk_cell BK177.out 4).trans rfl; have hfz10_0 := blk_frozen BK177.out 0; have hfz10_1 := blk_frozen BK177.out 1; have hfz10_2 := blk_frozen BK177.out 2; have hfz10_3 := blk_frozen BK177.out 3; have hfz10_4 := blk_frozen BK177.out 4))
    (try simp only [Act.put, List.setIfInBounds_toArray, List.set_cons_zero, List.set_cons_succ])
    go_cut [33] (fun v33 wc => ∃ (kq : Nat) (x33_4 : Bool), v33 = .bool x33_4 ∧ Aside0 (bourneref1_Scanner_walk.j1 kq a1 x5_1 x6_1 t174 t175 x33_4 x1000_1 x1001_1 t169 t170 t171 t172 t173 = some (r1, r2, r3)) ∧ Aside0 (kq ≤ k1) ∧ Aside0 (Kd.R k49 49 wc w.heap.size (fun k_ => k_ ≠ gb177) u5 x5_1) ∧ Aside0 (wc.heap[gb177]? = some (.cells #[.int .i64 t169, .int .i64 t170, .int .i64 t171, .int .i64 t172, .int .i64 t173] 49 (0, 0))) ∧ Aside0 (IsS27 w0 wc g x1000_1 x1001_1) ∧ Aside0 (KeepBut w wc g none) ∧ Aside0 (Below w0.heap.size w0 wc))
    case first =>
     have H := HC5.out
     clear HC5
     by_cases c11 : t176 = true
     ·subst c11
      have H1 : (bourneref1_Scanner_walk.j1 k1 a1 x5_1 x6_1 t174 t175 (!a1) x1000_1 x1001_1 t169 t170 t171 t172 t173) = some (r1, r2, r3) := by rw [if_pos rfl] at H; exact H
      clear H
      have H := H1
      clear H1
      have H' := Aside0.mk H
      clear H
      go_wp2
      go_meet
      case rel => exact ⟨_, (!a1), (by first | rfl | (simp; done) | (simp [*]; done)), H', ⟨by have := HK1.out; first | omega | exact Nat.le_refl _⟩, ⟨by (with_reducible repeat (first | apply Kd.R_alloc | apply Kd.R_drewN | apply Kd.R_drew)); exact Kd.R_mono (Kd.R_far (p := ⟨gb177, 4, none⟩) (Kd.R_far (p := ⟨gb177, 3, none⟩) (Kd.R_far (p := ⟨gb177, 2, none⟩) (Kd.R_far (p := ⟨gb177, 1, none⟩) (Kd.R_far (p := ⟨gb177, 0, none⟩) (Kd.R_mono HO_5.out (fun k_ hk => (⟨hk, hk.2⟩ : _ ∧ k_ ≠ gb177))) (fun _ hk => hk.2) (.int .i64 t169)) (fun _ hk => hk.2) (.int .i64 t170)) (fun _ hk => hk.2) (.int .i64 t171)) (fun _ hk => hk.2) (.int .i64 t172)) (fun _ hk => hk.2) (.int .i64 t173)) (fun _ hk => hk.1.2)⟩, ⟨by (with_reducible repeat (first | refine blk_drewN ?_ _ | refine blk_drew ?_ | refine blk_alloc ?_ _)); refine blk_put (cs := #[.int .i64 t169, .int .i64 t170, .int .i64 t171, .int .i64 t172, .int .i64 0]) ?_ 4 _ rfl; (with_reducible repeat (first | refine blk_drewN ?_ _ | refine blk_drew ?_ | refine blk_alloc ?_ _)); refine blk_put (cs := #[.int .i64 t169, .int .i64 t170, .int .i64 t171, .int .i64 0, .int .i64 0]) ?_ 3 _ rfl; (with_reducible repeat (first | refine blk_drewN ?_ _ | refine blk_drew ?_ | refine blk_alloc ?_ _)); refine blk_put (cs := #[.int .i64 t169, .int .i64 t170, .int .i64 0, .int .i64 0, .int .i64 0]) ?_ 2 _ rfl; (with_reducible repeat (first | refine blk_drewN ?_ _ | refine blk_drew ?_ | refine blk_alloc ?_ _)); refine blk_put (cs := #[.int .i64 t169, .int .i64 0, .int .i64 0, .int .i64 0, .int .i64 0]) ?_ 1 _ rfl; (with_reducible repeat (first | refine blk_drewN ?_ _ | refine blk_drew ?_ | refine blk_alloc ?_ _)); refine blk_put (cs := #[.int .i64 0, .int .i64 0, .int .i64 0, .int .i64 0, .int .i64 0]) ?_ 0 _ rfl; (with_reducible repeat (first | refine blk_drewN ?_ _ | refine blk_drew ?_ | refine blk_alloc ?_ _)); exact BK177.out⟩, ⟨by repeat (first | (with_reducible first | exact HI0.out | apply IsS27.alloc | apply IsS27.drewN | apply IsS27.drew | apply IsS27.set_0 | apply IsS27.set_1 | refine IsS27.far ?_ NB0_177.out _) | exact HI0.out)⟩, ⟨by repeat (first | (with_reducible first | exact HK.out | apply KeepBut.set_ | apply keep_drewN | apply keep_drew | apply keep_alloc | refine keep_far ?_ GW177.out _) | exact HK.out)⟩, ⟨by repeat (first | (with_reducible first | exact HB.out | apply below_alloc | apply pw_below_drewN | apply below_drew1 | refine below_set ?_ (IsS27.ge HI0.out) | refine below_set ?_ GE177.out) | exact HB.out)⟩⟩
     ·replace c11 := Bool.eq_false_iff.mpr c11
      subst c11
      have H1 : (bourneref1_Scanner_walk.j1 k1 a1 x5_1 x6_1 t174 t175 false x1000_1 x1001_1 t169 t170 t171 t172 t173) = some (r1, r2, r3) := by rw [if_neg (show ¬ (false = true) by decide)] at H; exact H
      clear H
      have H := H1
      clear H1
      have H' := Aside0.mk H
      clear H
      go_wp2
      go_meet
      case rel => exact ⟨_, (false), (by first | rfl | (simp; done) | (simp [*]; done)), H', ⟨by have := HK1.out; first | omega | exact Nat.le_refl _⟩, ⟨by (with_reducible repeat (first | apply Kd.R_alloc | apply Kd.R_drewN | apply Kd.R_drew)); exact Kd.R_mono (Kd.R_far (p := ⟨gb177, 4, none⟩) (Kd.R_far (p := ⟨gb177, 3, none⟩) (Kd.R_far (p := ⟨gb177, 2, none⟩) (Kd.R_far (p := ⟨gb177, 1, none⟩) (Kd.R_far (p := ⟨gb177, 0, none⟩) (Kd.R_mono HO_5.out (fun k_ hk => (⟨hk, hk.2⟩ : _ ∧ k_ ≠ gb177))) (fun _ hk => hk.2) (.int .i64 t169)) (fun _ hk => hk.2) (.int .i64 t170)) (fun _ hk => hk.2) (.int .i64 t171)) (fun _ hk => hk.2) (.int .i64 t172)) (fun _ hk => hk.2) (.int .i64 t173)) (fun _ hk => hk.1.2)⟩, ⟨by (with_reducible repeat (first | refine blk_drewN ?_ _ | refine blk_drew ?_ | refine blk_alloc ?_ _)); refine blk_put (cs := #[.int .i64 t169, .int .i64 t170, .int .i64 t171, .int .i64 t172, .int .i64 0]) ?_ 4 _ rfl; (with_reducible repeat (first | refine blk_drewN ?_ _ | refine blk_drew ?_ | refine blk_alloc ?_ _)); refine blk_put (cs := #[.int .i64 t169, .int .i64 t170, .int .i64 t171, .int .i64 0, .int .i64 0]) ?_ 3 _ rfl; (with_reducible repeat (first | refine blk_drewN ?_ _ | refine blk_drew ?_ | refine blk_alloc ?_ _)); refine blk_put (cs := #[.int .i64 t169, .int .i64 t170, .int .i64 0, .int .i64 0, .int .i64 0]) ?_ 2 _ rfl; (with_reducible repeat (first | refine blk_drewN ?_ _ | refine blk_drew ?_ | refine blk_alloc ?_ _)); refine blk_put (cs := #[.int .i64 t169, .int .i64 0, .int .i64 0, .int .i64 0, .int .i64 0]) ?_ 1 _ rfl; (with_reducible repeat (first | refine blk_drewN ?_ _ | refine blk_drew ?_ | refine blk_alloc ?_ _)); refine blk_put (cs := #[.int .i64 0, .int .i64 0, .int .i64 0, .int .i64 0, .int .i64 0]) ?_ 0 _ rfl; (with_reducible repeat (first | refine blk_drewN ?_ _ | refine blk_drew ?_ | refine blk_alloc ?_ _)); exact BK177.out⟩, ⟨by repeat (first | (with_reducible first | exact HI0.out | apply IsS27.alloc | apply IsS27.drewN | apply IsS27.drew | apply IsS27.set_0 | apply IsS27.set_1 | refine IsS27.far ?_ NB0_177.out _) | exact HI0.out)⟩, ⟨by repeat (first | (with_reducible first | exact HK.out | apply KeepBut.set_ | apply keep_drewN | apply keep_drew | apply keep_alloc | refine keep_far ?_ GW177.out _) | exact HK.out)⟩, ⟨by repeat (first | (with_reducible first | exact HB.out | apply below_alloc | apply pw_below_drewN | apply below_drew1 | refine below_set ?_ (IsS27.ge HI0.out) | refine below_set ?_ GE177.out) | exact HB.out)⟩⟩
    case rest =>
     clear HC5
     try clear c1
     try clear c2
     try clear p2
     try clear c3
     try clear c3b0
     try clear c9
     try clear c11
     try clear hcz10_0
     try clear hcz10_1
     try clear hcz10_2
     try clear hcz10_3
     try clear hcz10_4
     try clear hcz6_0
     try clear hcz6_1
     try clear hfz10_0
     try clear hfz10_1
     try clear hfz10_2
     try clear hfz10_3
     try clear hfz10_4
     try clear hfz6_0
     try clear hfz6_1
     try clear p2
     obtain ⟨kq, x33_4, rfl, HA, HJ4, HO_5, BK177, HI0, HK, HB⟩ := hcut
     cases kq with
     | zero => exact absurd HA.out (by simp [bourneref1_Scanner_walk.j1])
      | succ kj4 =>
      have H := HA.out
      clear HA
      simp only [bourneref1_Scanner_walk.j1] at H
      by_cases c12 : x33_4 = true
      ·subst c12
       have H1 : (if 0 ≤ x6_1 then (if x6_1 ≤ (x1000_1.size : Int) then (some (x5_1, x1000_1.extract (x6_1 : Int).toNat x1000_1.size, x1001_1)) else (none)) else (none)) = some (r1, r2, r3) := by rw [if_pos rfl] at H; exact H
       clear H
       have H := H1
       clear H1
       by_cases c13 : 0 ≤ x6_1
       ·rw [if_pos c13] at H
        have c13b0 := eq_true c13
        have c13b1 : decide (0 ≤ x6_1) = true := decide_eq_true c13
        clear c13
        by_cases c14 : x6_1 ≤ (x1000_1.size : Int)
        ·rw [if_pos c14] at H
         have c14b0 := eq_true c14
         have c14b1 : decide (x6_1 ≤ (x1000_1.size : Int)) = true := decide_eq_true c14
         clear c14
         simp only [Option.some.injEq, Prod.mk.injEq] at H
         obtain ⟨rfl, rfl, rfl⟩ := H
         obtain ⟨HGz15, hgz15⟩ := HI0.out
         have hcz15_0 := cellS27_0 HGz15
         have hcz15_1 := cellS27_1 HGz15
         have hfz15_0 := blk_frozen HGz15 0
         have hfz15_1 := blk_frozen HGz15 1
         clear HGz15 hgz15
         go_wp2
         go_ret
         exact ⟨_, by first | rfl | (simp [errW_none, errW_some] <;> rfl) | (simp [*, errW_none, errW_some] <;> rfl), by (with_reducible repeat (first | apply Kd.R_alloc | apply Kd.R_drewN | apply Kd.R_drew)); exact Kd.R_mono (Kd.R_far (p := ⟨g, 0, none⟩) (IsS27.apart HI0.out HO_5.out (by decide)) (fun _ hk => hk.2) (.string (x1000_1.extract (x6_1 : Int).toNat x1000_1.size))) (fun _ hk => trivial), by repeat (first | (with_reducible first | exact HI0.out | apply IsS27.alloc | apply IsS27.drewN | apply IsS27.drew | apply IsS27.set_0 | apply IsS27.set_1 | refine IsS27.far ?_ NB0_177.out _) | exact HI0.out), by repeat (first | (with_reducible first | exact HB.out | apply below_alloc | apply pw_below_drewN | apply below_drew1 | refine below_set ?_ (IsS27.ge HI0.out) | refine below_set ?_ GE177.out) | exact HB.out), by repeat (first | (with_reducible first | exact HK.out | apply KeepBut.set_ | apply keep_drewN | apply keep_drew | apply keep_alloc | refine keep_far ?_ GW177.out _) | exact HK.out)⟩
        ·rw [if_neg c14] at H
         exact absurd H (by simp)
       ·rw [if_neg c13] at H
        exact absurd H (by simp)
      ·replace c12 := Bool.eq_false_iff.mpr c12
       subst c12
       have H1 : (if t175 = true then ((bourneref1_Scanner_bad.f x1000_1 x1001_1).bind fun bt178 => (if x5_1.length + bt178.1.length < 3518437208883 then ((some (x5_1 ++ bt178.1 : List (S49))).bind fun y183 => (if y183.length < 3518437208883 then (bourneref1_Scanner_walk.l0 kj4 a1 (y183 ++ [(⟨t169, t170, t171, t172, t173⟩ : S49)]) t174 bt178.2.1 bt178.2.2) else (none))) else (none))) else (bourneref1_Scanner_walk.l0 kj4 a1 x5_1 (wrap64 (x6_1 + 1)) x1000_1 (mn (wrap64 (x1001_1 + 1)) 1073741823))) = some (r1, r2, r3) := by rw [if_neg (show ¬ (false = true) by decide)] at H; exact H
       clear H
       have H := H1
       clear H1
       by_cases c16 : t175 = true
       ·subst c16
        have H1 : ((bourneref1_Scanner_bad.f x1000_1 x1001_1).bind fun bt178 => (if x5_1.length + bt178.1.length < 3518437208883 then ((some (x5_1 ++ bt178.1 : List (S49))).bind fun y183 => (if y183.length < 3518437208883 then (bourneref1_Scanner_walk.l0 kj4 a1 (y183 ++ [(⟨t169, t170, t171, t172, t173⟩ : S49)]) t174 bt178.2.1 bt178.2.2) else (none))) else (none))) = some (r1, r2, r3) := by rw [if_pos rfl] at H; exact H
        clear H
        have H := H1
        clear H1
        replace H := Option.bind_eq_some_iff.mp H
        obtain ⟨⟨t178, t181, t182⟩, A170, H⟩ := H
        replace H : (if x5_1.length + t178.length < 3518437208883 then ((some (x5_1 ++ t178 : List (S49))).bind fun y183 => (if y183.length < 3518437208883 then (bourneref1_Scanner_walk.l0 kj4 a1 (y183 ++ [(⟨t169, t170, t171, t172, t173⟩ : S49)]) t174 t181 t182) else (none))) else (none)) = some (r1, r2, r3) := H
        have A17 := Aside0.mk A170
        clear A170
        by_cases c18 : x5_1.length + t178.length < 3518437208883
        ·rw [if_pos c18] at H
         have LMc18 := Aside0.mk c18
         clear c18
         obtain ⟨y183, hy183⟩ : ∃ y_ : List (S49), y_ = (x5_1 ++ t178) := ⟨_, rfl⟩
         replace H : (if y183.length < 3518437208883 then (bourneref1_Scanner_walk.l0 kj4 a1 (y183 ++ [(⟨t169, t170, t171, t172, t173⟩ : S49)]) t174 t181 t182) else (none)) = some (r1, r2, r3) := by first | (rw [hy183]; with_reducible exact H) | (have H2_ := (Option.bind_some _ _).symm.trans H; rw [hy183]; with_reducible exact H2_) | (have H2_ := (Option.bind_some _ _).symm.trans H; with_reducible exact H2_) | with_reducible exact H | (rw [hy183]; exact H) | exact H
         have Ny183 := Aside0.mk hy183
         clear hy183
         by_cases c19 : y183.length < 3518437208883
         ·rw [if_pos c19] at H
          have LMc19 := Aside0.mk c19
          clear c19
          obtain ⟨y186, hy186⟩ : ∃ y_ : List (S49), y_ = (y183 ++ [(⟨t169, t170, t171, t172, t173⟩ : S49)]) := ⟨_, rfl⟩
          replace H : (bourneref1_Scanner_walk.l0 kj4 a1 y186 t174 t181 t182) = some (r1, r2, r3) := by first | (rw [hy186]; with_reducible exact H) | (have H2_ := (Option.bind_some _ _).symm.trans H; rw [hy186]; with_reducible exact H2_) | (have H2_ := (Option.bind_some _ _).symm.trans H; with_reducible exact H2_) | with_reducible exact H | (rw [hy186]; exact H) | exact H
          have Ny186 := Aside0.mk hy186
          clear hy186
          have H' := Aside0.mk H
          clear H
          go_wp2_with (first | ((with_reducible refine gate_callee (f := 30) rfl ?_); refine goesL_ (some 49) rfl rfl Try.func30 (by kernel_rfl) rfl #[.pointer (some ⟨g, 0, none⟩)] rfl (by (try simp only [List.map_toArray, List.map_cons, List.map_nil]); first | done | rfl | (simp only [List.length_drop, List.length_take]; rfl)) ?_; (with_reducible refine (bourneref1_Scanner_bad.calls g x1000_1 x1001_1 t178 t181 t182 w0 _ ?side1 ?side2 A17.out).mono ?_); (case side1 => repeat (first | (with_reducible first | exact HI0.out | apply IsS27.alloc | apply IsS27.drewN | apply IsS27.drew | apply IsS27.set_0 | apply IsS27.set_1 | refine IsS27.far ?_ NB0_177.out _) | exact HI0.out)); (case side2 => repeat (first | (with_reducible first | exact HB.out | apply below_alloc | apply pw_below_drewN | apply below_drew1 | refine below_set ?_ (IsS27.ge HI0.out) | refine below_set ?_ GE177.out) | exact HB.out)); rintro e w20 ⟨v179, rfl, ho0, hi, hb, hk⟩; refine ⟨_, rfl, ?_⟩; have n0_ := Aside0.mk (Kd.R_mono (Kd.R_told (Kd.R_oldK (IsS27.apart (show IsS27 w0 _ g x1000_1 x1001_1 from by repeat (first | (with_reducible first | exact HI0.out | apply IsS27.alloc | apply IsS27.drewN | apply IsS27.drew | apply IsS27.set_0 | apply IsS27.set_1 | refine IsS27.far ?_ NB0_177.out _) | exact HI0.out)) (by (with_reducible repeat (first | apply Kd.R_alloc | apply Kd.R_drewN | apply Kd.R_drew)); exact HO_5.out) (by decide)) hk) (Kd.R_base ho0)) (fun _ h_ => h_.1)); have n1_ := Aside0.mk (KeepBut.blk hk (g' := gb177) (o := .cells #[.int .i64 t169, .int .i64 t170, .int .i64 t171, .int .i64 t172, .int .i64 t173] 49 (0, 0)) (by (with_reducible repeat (first | refine blk_drewN ?_ _ | refine blk_drew ?_ | refine blk_alloc ?_ _)); exact BK177.out) NB177_0.out (by simp)); have n2_ := Aside0.mk (Kd.R_lower (Kd.R_newB (Kd.R_new' ho0 (Kd.R_lt (by (with_reducible repeat (first | apply Kd.R_alloc | apply Kd.R_drewN | apply Kd.R_drew)); exact HO_5.out))) (g := gb177) (o := .cells #[.int .i64 t169, .int .i64 t170, .int .i64 t171, .int .i64 t172, .int .i64 t173] 49 (0, 0)) (by (with_reducible repeat (first | refine blk_drewN ?_ _ | refine blk_drew ?_ | refine blk_alloc ?_ _)); exact BK177.out)) (keep_size (w := w) (g := g) (row := none) (by repeat (first | (with_reducible first | exact HK.out | apply KeepBut.set_ | apply keep_drewN | apply keep_drew | apply keep_alloc | refine keep_far ?_ GW177.out _) | exact HK.out)))); have n3_ := Aside0.mk (KeepBut.trans (by repeat (first | (with_reducible first | exact HK.out | apply KeepBut.set_ | apply keep_drewN | apply keep_drew | apply keep_alloc | refine keep_far ?_ GW177.out _) | exact HK.out)) hk (.inl rfl)); have n4_ := Aside0.mk (hb); have n5_ := Aside0.mk (hi); clear HO_5; clear BK177; clear HK; clear HB; clear HI0; have HO_5 := n0_; have BK177 := n1_; have HO180 := n2_; have HK := n3_; have HB := n4_; have HI0 := n5_; clear n0_ n1_ n2_ n3_ n4_ n5_; (try clear hb); (try clear hb2); (try clear hk); (try clear hi); (try clear ho0); obtain ⟨Ao22, co22, eo22⟩ := Kd.R_slice HO180.out; subst eo22) | ((with_reducible refine gate_builtin (b := .append) (xs := #[.tmp 47, .tmp 49]) rfl ?_); at_builtin; refine Kd.R_append_rows k49 w.heap.size rfl (.tmp 47) (.tmp 49) 34 49 (.agg #[(.int .i64 0), (.int .i64 0), (.int .i64 0), (.int .i64 0), (.int .i64 0)]) 40 rfl Try.underlying34 info49 rfl (by decide) (by omega) u5 x5_1 t178 _ _ _ (fun k_ => some k_ ≠ (.slice Ao22 t178.length co22 : Value).ownBlock ∧ k_ ≠ gb177) (fun _ => False) rfl rfl ?aO ?aR (fun _ _ h => h) (fun _ h => h.elim) ?aF (Below.refl _ _) ?aS ?aL ?_; (case aR => repeat (first | exact (Kd.R_reads' HO180.out).2.2 | (with_reducible refine Kd.C_alloc ?_ _) | (with_reducible refine Kd.C_drewN ?_ _) | (with_reducible refine Kd.C_drew ?_))); (case aF => exact (fun k_ hk => ⟨Kd.fresh' (Kd.R_lt (by (with_reducible repeat (first | apply Kd.R_alloc | apply Kd.R_drewN | apply Kd.R_drew)); exact HO180.out)) k_ hk, Kd.freshB (g := gb177) (o := .cells #[.int .i64 t169, .int .i64 t170, .int .i64 t171, .int .i64 t172, .int .i64 t173] 49 (0, 0)) (by (with_reducible repeat (first | refine blk_drewN ?_ _ | refine blk_drew ?_ | refine blk_alloc ?_ _)); exact BK177.out) k_ hk⟩)); (case aO => exact (by (with_reducible repeat (first | apply Kd.R_alloc | apply Kd.R_drewN | apply Kd.R_drew)); exact Kd.R_mono HO_5.out (fun _ hk => ⟨hk.2, hk.1⟩))); (case aS => exact (keep_size (w := w) (g := g) (row := none) (by repeat (first | (with_reducible first | exact HK.out | apply KeepBut.set_ | apply keep_drewN | apply keep_drew | apply keep_alloc | refine keep_far ?_ GW177.out _) | exact HK.out)))); (case aL => have := LMc18.out; omega); intro v184 w21 ho hb hg hat; rw [← Ny183.out] at ho; have n0_ := Aside0.mk (blk_grown (g := gb177) (o := .cells #[.int .i64 t169, .int .i64 t170, .int .i64 t171, .int .i64 t172, .int .i64 t173] 49 (0, 0)) (by (with_reducible repeat (first | refine blk_drewN ?_ _ | refine blk_drew ?_ | refine blk_alloc ?_ _)); exact BK177.out) hg (Kd.R_away HO_5.out (fun _ hk => hk.1))); have n1_ := Aside0.mk (IsS27.grown (by repeat (first | (with_reducible first | exact HI0.out | apply IsS27.alloc | apply IsS27.drewN | apply IsS27.drew | apply IsS27.set_0 | apply IsS27.set_1 | refine IsS27.far ?_ NB0_177.out _) | exact HI0.out)) hg (IsS27.own_ne HI0.out HO_5.out (by decide))); have n2_ := Aside0.mk (Kd.R_after (ok := (fun k_ => k_ ≠ gb177)) (by (with_reducible repeat (first | apply Kd.R_alloc | apply Kd.R_drewN | apply Kd.R_drew)); exact Kd.R_mono HO180.out (fun _ hk => ⟨hk.2, hk.1.2⟩)) hg hat); have n3_ := Aside0.mk (below_weaken (by repeat (first | (with_reducible first | exact HB.out | apply below_alloc | apply pw_below_drewN | apply below_drew1 | refine below_set ?_ (IsS27.ge HI0.out) | refine below_set ?_ GE177.out) | exact HB.out)) HL.out hb); have n4_ := Aside0.mk (KeepBut.trans (by repeat (first | (with_reducible first | exact HK.out | apply KeepBut.set_ | apply keep_drewN | apply keep_drew | apply keep_alloc | refine keep_far ?_ GW177.out _) | exact HK.out)) (KeepBut.of_grown hg g) (Kd.R_base2 HO_5.out)); have n5_ := Aside0.mk (ho); clear BK177; clear HI0; clear HO180; clear HB; clear HK; clear HO_5; have BK177 := n0_; have HI0 := n1_; have HO180 := n2_; have HB := n3_; have HK := n4_; have HO185 := n5_; clear n0_ n1_ n2_ n3_ n4_ n5_; clear ho hb hg hat; have hnb23 := NB177_0.out; have hnc23 := NB0_177.out; have hcz24_0 : w21.cell? ⟨gb177, 0, none⟩ = some (.int .i64 t169) := (blk_cell BK177.out 0).trans rfl; have hcz24_1 : w21.cell? ⟨gb177, 1, none⟩ = some (.int .i64 t170) := (blk_cell BK177.out 1).trans rfl; have hcz24_2 : w21.cell? ⟨gb177, 2, none⟩ = some (.int .i64 t171) := (blk_cell BK177.out 2).trans rfl; have hcz24_3 : w21.cell? ⟨gb177, 3, none⟩ = some (.int .i64 t172) := (blk_cell BK177.out 3).trans rfl; have hcz24_4 : w21.cell? ⟨gb177, 4, none⟩ = some (.int .i64 t173) := (blk_cell BK177.out 4).trans rfl; have hfz24_0 := blk_frozen BK177.out 0; have hfz24_1 := blk_frozen BK177.out 1; have hfz24_2 := blk_frozen BK177.out 2; have hfz24_3 := blk_frozen BK177.out 3; have hfz24_4 := blk_frozen BK177.out 4) | ((with_reducible refine gate_builtin (b := .append) (xs := #[.tmp 51, .tmp 53]) rfl ?_); at_builtin; refine Kd.R_append k49 w.heap.size rfl (.tmp 51) (.tmp 53) 34 49 (.agg #[(.int .i64 0), (.int .i64 0), (.int .i64 0), (.int .i64 0), (.int .i64 0)]) 40 rfl Try.underlying34 info49 rfl (by decide) (by omega) v184 y183 (⟨t169, t170, t171, t172, t173⟩ : S49) [.int .i64 t169, .int .i64 t170, .int .i64 t171, .int .i64 t172, .int .i64 t173] (fun k_ => some k_ ≠ (.slice Ao22 t178.length co22 : Value).ownBlock ∧ k_ ≠ gb177) (fun _ => False) rfl rfl ?aP (fun _ hk => hk.elim) ?aF ?aO (Below.refl _ _) ?aS ?aL ?_; (case aP => exact k49_mkM _ _ _ (⟨t169, t170, t171, t172, t173⟩ : S49)); (case aF => exact (fun k_ hk => ⟨Kd.fresh' (Kd.R_lt (by (with_reducible repeat (first | apply Kd.R_alloc | apply Kd.R_drewN | apply Kd.R_drew)); exact HO180.out)) k_ hk, Kd.freshB (g := gb177) (o := .cells #[.int .i64 t169, .int .i64 t170, .int .i64 t171, .int .i64 t172, .int .i64 t173] 49 (0, 0)) (by (with_reducible repeat (first | refine blk_drewN ?_ _ | refine blk_drew ?_ | refine blk_alloc ?_ _)); exact BK177.out) k_ hk⟩)); (case aO => exact (by (with_reducible repeat (first | apply Kd.R_alloc | apply Kd.R_drewN | apply Kd.R_drew)); exact HO185.out)); (case aS => exact (keep_size (w := w) (g := g) (row := none) (by repeat (first | (with_reducible first | exact HK.out | apply KeepBut.set_ | apply keep_drewN | apply keep_drew | apply keep_alloc | refine keep_far ?_ GW177.out _) | exact HK.out)))); (case aL => have := LMc19.out; omega); intro v187 w25 ho hb hg hat; rw [← Ny186.out] at ho; have n0_ := Aside0.mk (blk_grown (g := gb177) (o := .cells #[.int .i64 t169, .int .i64 t170, .int .i64 t171, .int .i64 t172, .int .i64 t173] 49 (0, 0)) (by (with_reducible repeat (first | refine blk_drewN ?_ _ | refine blk_drew ?_ | refine blk_alloc ?_ _)); exact BK177.out) hg (Kd.R_away HO185.out (fun _ hk => hk.2))); have n1_ := Aside0.mk (IsS27.grown (by repeat (first | (with_reducible first | exact HI0.out | apply IsS27.alloc | apply IsS27.drewN | apply IsS27.drew | apply IsS27.set_0 | apply IsS27.set_1 | refine IsS27.far ?_ NB0_177.out _) | exact HI0.out)) hg (IsS27.own_ne HI0.out HO185.out (by decide))); have n2_ := Aside0.mk (Kd.R_after (ok := (fun k_ => k_ ≠ gb177)) (by (with_reducible repeat (first | apply Kd.R_alloc | apply Kd.R_drewN | apply Kd.R_drew)); exact HO180.out) hg hat); have n3_ := Aside0.mk (below_weaken (by repeat (first | (with_reducible first | exact HB.out | apply below_alloc | apply pw_below_drewN | apply below_drew1 | refine below_set ?_ (IsS27.ge HI0.out) | refine below_set ?_ GE177.out) | exact HB.out)) HL.out hb); have n4_ := Aside0.mk (KeepBut.trans (by repeat (first | (with_reducible first | exact HK.out | apply KeepBut.set_ | apply keep_drewN | apply keep_drew | apply keep_alloc | refine keep_far ?_ GW177.out _) | exact HK.out)) (KeepBut.of_grown hg g) (Kd.R_base2 HO185.out)); have n5_ := Aside0.mk (ho); clear BK177; clear HI0; clear HO180; clear HB; clear HK; clear HO185; have BK177 := n0_; have HI0 := n1_; have HO180 := n2_; have HB := n3_; have HK := n4_; have HO188 := n5_; clear n0_ n1_ n2_ n3_ n4_ n5_; clear ho hb hg hat))
          go_roundg kj4
          case measure => have := HK1.out; have := HJ4.out; omega
          case rel => exact ⟨(y186), (t174), (t181), (t182), (by first | rfl | (simp; done) | (simp [*]; done)), H', ⟨by have := HK1.out; have := HJ4.out; omega⟩, ⟨by (with_reducible repeat (first | apply Kd.R_alloc | apply Kd.R_drewN | apply Kd.R_drew)); exact Kd.R_mono HO188.out (fun _ hk => trivial)⟩, ⟨by repeat (first | (with_reducible first | exact HI0.out | apply IsS27.alloc | apply IsS27.drewN | apply IsS27.drew | apply IsS27.set_0 | apply IsS27.set_1 | refine IsS27.far ?_ NB0_177.out _) | exact HI0.out)⟩, ⟨by repeat (first | (with_reducible first | exact HK.out | apply KeepBut.set_ | apply keep_drewN | apply keep_drew | apply keep_alloc | refine keep_far ?_ GW177.out _) | exact HK.out)⟩, ⟨by repeat (first | (with_reducible first | exact HB.out | apply below_alloc | apply pw_below_drewN | apply below_drew1 | refine below_set ?_ (IsS27.ge HI0.out) | refine below_set ?_ GE177.out) | exact HB.out)⟩⟩
         ·rw [if_neg c19] at H
          exact absurd H (by simp)
        ·rw [if_neg c18] at H
         exact absurd H (by simp)
       ·replace c16 := Bool.eq_false_iff.mpr c16
        subst c16
        have H1 : (bourneref1_Scanner_walk.l0 kj4 a1 x5_1 (wrap64 (x6_1 + 1)) x1000_1 (mn (wrap64 (x1001_1 + 1)) 1073741823)) = some (r1, r2, r3) := by rw [if_neg (show ¬ (false = true) by decide)] at H; exact H
        clear H
        have H := H1
        clear H1
        obtain ⟨ji26, hji26⟩ : ∃ j_ : Int, (mn (wrap64 (x1001_1 + 1)) 1073741823) = j_ := ⟨_, rfl⟩
        replace H : (bourneref1_Scanner_walk.l0 kj4 a1 x5_1 (wrap64 (x6_1 + 1)) x1000_1 ji26) = some (r1, r2, r3) := by first | (rw [hji26] at H; exact H) | (simp only [hji26] at H ⊢; exact H)
        have hji26_ : (if 1073741823 < (wrap64 (x1001_1 + 1)) then 1073741823 else (wrap64 (x1001_1 + 1))) = ji26 := hji26
        have H' := Aside0.mk H
        clear H
        obtain ⟨HGz27, hgz27⟩ := HI0.out
        have hcz27_0 := cellS27_0 HGz27
        have hcz27_1 := cellS27_1 HGz27
        have hfz27_0 := blk_frozen HGz27 0
        have hfz27_1 := blk_frozen HGz27 1
        clear HGz27 hgz27
        go_wp2
        go_roundg kj4
        case measure => have := HK1.out; have := HJ4.out; omega
        case rel => exact ⟨(x5_1), (wrap64 (x6_1 + 1)), (x1000_1), (ji26), (by first | rfl | (simp; done) | (simp [*]; done)), H', ⟨by have := HK1.out; have := HJ4.out; omega⟩, ⟨by (with_reducible repeat (first | apply Kd.R_alloc | apply Kd.R_drewN | apply Kd.R_drew)); exact Kd.R_mono (Kd.R_far (p := ⟨g, 1, none⟩) (IsS27.apart HI0.out HO_5.out (by decide)) (fun _ hk => hk.2) (.int .i64 ji26)) (fun _ hk => trivial)⟩, ⟨by repeat (first | (with_reducible first | exact HI0.out | apply IsS27.alloc | apply IsS27.drewN | apply IsS27.drew | apply IsS27.set_0 | apply IsS27.set_1 | refine IsS27.far ?_ NB0_177.out _) | exact HI0.out)⟩, ⟨by repeat (first | (with_reducible first | exact HK.out | apply KeepBut.set_ | apply keep_drewN | apply keep_drew | apply keep_alloc | refine keep_far ?_ GW177.out _) | exact HK.out)⟩, ⟨by repeat (first | (with_reducible first | exact HB.out | apply below_alloc | apply pw_below_drewN | apply below_drew1 | refine below_set ?_ (IsS27.ge HI0.out) | refine below_set ?_ GE177.out) | exact HB.out)⟩⟩
   ·rw [if_neg c3] at H
    have c3b0 : decide (x6_1 < (x1000_1.size : Int)) = false := decide_eq_false c3
    clear c3
    by_cases c28 : 0 ≤ x6_1
    ·rw [if_pos c28] at H
     have c28b0 := eq_true c28
     have c28b1 : decide (0 ≤ x6_1) = true := decide_eq_true c28
     clear c28
     by_cases c29 : x6_1 ≤ (x1000_1.size : Int)
     ·rw [if_pos c29] at H
      have c29b0 := eq_true c29
      have c29b1 : decide (x6_1 ≤ (x1000_1.size : Int)) = true := decide_eq_true c29
      clear c29
      simp only [Option.some.injEq, Prod.mk.injEq] at H
      obtain ⟨rfl, rfl, rfl⟩ := H
      obtain ⟨HGz30, hgz30⟩ := HI0.out
      have hcz30_0 := cellS27_0 HGz30
      have hcz30_1 := cellS27_1 HGz30
      have hfz30_0 := blk_frozen HGz30 0
      have hfz30_1 := blk_frozen HGz30 1
      clear HGz30 hgz30
      go_wp2
      go_ret
      exact ⟨_, by first | rfl | (simp [errW_none, errW_some] <;> rfl) | (simp [*, errW_none, errW_some] <;> rfl), by (with_reducible repeat (first | apply Kd.R_alloc | apply Kd.R_drewN | apply Kd.R_drew)); exact Kd.R_mono (Kd.R_far (p := ⟨g, 0, none⟩) (IsS27.apart HI0.out HO_5.out (by decide)) (fun _ hk => hk.2) (.string (x1000_1.extract (x6_1 : Int).toNat x1000_1.size))) (fun _ hk => trivial), by repeat (first | (with_reducible first | exact HI0.out | apply IsS27.alloc | apply IsS27.drewN | apply IsS27.drew | apply IsS27.set_0 | apply IsS27.set_1) | exact HI0.out), by repeat (first | (with_reducible first | exact HB.out | apply below_alloc | apply pw_below_drewN | apply below_drew1 | refine below_set ?_ (IsS27.ge HI0.out)) | exact HB.out), by repeat (first | (with_reducible first | exact HK.out | apply KeepBut.set_ | apply keep_drewN | apply keep_drew | apply keep_alloc) | exact HK.out)⟩
     ·rw [if_neg c29] at H
      exact absurd H (by simp)
    ·rw [if_neg c28] at H
     exact absurd H (by simp)

end Go.Proofs.Ytmccgkbbgicglaa.QScanRef
