/- Walks and words for the reference's scanner. No condition. -/
import Derived.Test.YtmccgkbbgicglaaScanLoadWR
import Derived.Test.YtmccgkbbgicglaaQScanRefx4
import Derived.Test.YtmccgkbbgicglaaQScanRefx11
namespace Go.Proofs.Ytmccgkbbgicglaa.ScanRefW
open Go.RowKit Go.Proofs.Ytmccgkbbgicglaa.QScanRef Go.Proofs.Ytmccgkbbgicglaa.ScanLoadWR Go.Proofs.YtmccgkbbgicglaaW.PrintWords Go.Proofs.YtmccgkbbgicglaaW.PrintLast Go.Proofs.YtmccgkbbgicglaaW.PrintMore
set_option linter.unusedVariables false
set_option linter.unusedSimpArgs false

/-! ### ref11 -/
theorem rst_keepS {w0 W W' : World} {g g' : Nat} {f0 f0' : ByteArray} {f1 f1' : Int} (h : IsS27 w0 W g' f0' f1') (hI : IsS58 w0 W g f0 f1) (hk : KeepBut W W' g none) : IsS27 w0 W' g' f0' f1' :=
  ⟨KeepBut.blk hk h.1 (fun e => IsS58.ne_blk hI h.1 (by decide) e.symm) (by simp), h.2⟩
theorem st_keepR {w0 W W' : World} {g g' : Nat} {f0 f0' : ByteArray} {f1 f1' : Int} (h : IsS58 w0 W g' f0' f1') (hI : IsS27 w0 W g f0 f1) (hk : KeepBut W W' g none) : IsS58 w0 W' g' f0' f1' :=
  ⟨KeepBut.blk hk h.1 (fun e => IsS27.ne_blk hI h.1 (by decide) e.symm) (by simp), h.2⟩
theorem rst_keep {w0 W W' : World} {g g' : Nat} {f0 : ByteArray} {f1 : Int} (h : IsS27 w0 W g' f0 f1) (hk : KeepBut W W' g none) (hne : g' ≠ g) : IsS27 w0 W' g' f0 f1 :=
  ⟨KeepBut.blk hk h.1 hne (by simp), h.2⟩
theorem rw_keepR {w0 W W' : World} {g : Nat} {f0 : ByteArray} {f1 : Int} {base : Nat} {ok : Nat → Prop} {v : Value} {xs : List S49} (h : Kd.R k49 49 W base ok v xs) (hI : IsS27 w0 W g f0 f1) (hk : KeepBut W W' g none) : Kd.R k49 49 W' base ok v xs :=
  Kd.R_mono (Kd.R_keep (IsS27.apart hI h (by decide)) hk (fun _ h => h.2)) (fun _ h => h.1)
theorem new_rst {w0 W W' : World} {g g' : Nat} {f0 f0' : ByteArray} {f1 f1' : Int} (hB : Below w0.heap.size w0 W) (hI : IsS27 w0 W g f0 f1) (h : IsS27 W W' g' f0' f1') : IsS27 w0 W' g' f0' f1' ∧ g' ≠ g :=
  ⟨⟨h.1, Nat.le_trans (below_size hB) h.2⟩, fun e => by have := IsS27.lt hI; have := h.2; omega⟩
set_option maxHeartbeats 8000000 in
theorem rload_ok (K : Nat) (a0 : ByteArray) (b : Int) (x : ByteArray) (at_ e_ : Int) (w0 w : World) (hB : Below w0.heap.size w0 w) (h : bourneref1_GetFrame.f K a0 0 = some (x, at_, e_)) (h0 : 0 ≤ b) (h1 : b ≤ 1073741823) (h2 : a0.toList = ([] : List UInt8) ∨ e_ = 801) :
    Calls Try.prog 11 #[.string a0, .int .i64 b] w fun e w' => ∃ g : Nat, e = .returned (.tuple #[.pointer (some ⟨g, 0, none⟩), .int .i64 0]) ∧ IsS27 w0 w' g a0 b ∧ w.heap.size ≤ g ∧ Below w.heap.size w w' := by
  have HB := Aside0.mk hB
  have H := Aside0.mk h
  clear hB h
  have c0 : decide (b < 0) = false := decide_eq_false (by omega)
  have c1 : decide (1073741823 < b) = false := decide_eq_false (by omega)
  clear h0 h1
  have HC : ((a0.toList != ([] : List UInt8)) = false ∧ a0.toList.isEmpty = true ∧ (a0.toList = ([] : List UInt8)) = True) ∨ ((a0.toList != ([] : List UInt8)) = true ∧ a0.toList.isEmpty = false ∧ (a0.toList = ([] : List UInt8)) = False) ∧ (e_ != 801) = false := by
    by_cases z : a0.toList = ([] : List UInt8)
    · exact .inl (str_ne z)
    · exact .inr ⟨str_ne' z, bne_eq_false_iff_eq.2 (h2.resolve_left z)⟩
  clear h2
  go_enter Try.func11, Try.ntmps11
  go_wp2_with fail
  refine (bourneref1_GetFrame.calls K a0 0 x at_ e_ _ H.out).mono ?_
  rintro e w2 ⟨rfl, hb⟩
  replace hb := drawn_below hb
  have HB2 := Aside0.mk (below_step HB.out hb)
  have HB3 := Aside0.mk hb
  clear hb HB H
  rcases HC with ⟨c2, c4, c5⟩ | ⟨⟨c2, c4, c5⟩, c3⟩
  all_goals
    go_wp2_with fail
    go_ret2
    exact ⟨_, rfl, IsS27.new w0 w2 a0 b HB2.out, HB3.out.size, below_alloc HB3.out _⟩
set_option maxHeartbeats 8000000 in
theorem rload_no (K : Nat) (a0 : ByteArray) (b : Int) (x : ByteArray) (at_ e_ : Int) (w : World) (h : bourneref1_GetFrame.f K a0 0 = some (x, at_, e_)) (hn : b < 0 ∨ 1073741823 < b ∨ (a0.toList ≠ ([] : List UInt8) ∧ e_ ≠ 801)) :
    Calls Try.prog 11 #[.string a0, .int .i64 b] w fun e w' => e = .returned (.tuple #[.pointer none, .int .i64 1100]) ∧ Below w.heap.size w w' := by
  have H := Aside0.mk h
  clear h
  have HC : (decide (b < 0) = true) ∨ ((decide (b < 0) = false) ∧ (decide (1073741823 < b) = true)) ∨ ((decide (b < 0) = false) ∧ (decide (1073741823 < b) = false) ∧ ((a0.toList != ([] : List UInt8)) = true ∧ a0.toList.isEmpty = false ∧ (a0.toList = ([] : List UInt8)) = False) ∧ (e_ != 801) = true) := by
    by_cases z : b < 0
    · exact .inl (decide_eq_true z)
    · by_cases y : 1073741823 < b
      · exact .inr (.inl ⟨decide_eq_false z, decide_eq_true y⟩)
      · obtain ⟨p, q⟩ := (hn.resolve_left z).resolve_left y
        exact .inr (.inr ⟨decide_eq_false z, decide_eq_false y, str_ne' p, bne_iff_ne.2 q⟩)
  clear hn
  go_enter Try.func11, Try.ntmps11
  go_wp2_with fail
  refine (bourneref1_GetFrame.calls K a0 0 x at_ e_ _ H.out).mono ?_
  rintro e w2 ⟨rfl, hb⟩
  replace hb := drawn_below hb
  have HB3 := Aside0.mk hb
  clear hb H
  rcases HC with c0 | ⟨c0, c1⟩ | ⟨c0, c1, ⟨c2, c4, c5⟩, c3⟩
  all_goals
    go_wp2_with fail
    go_ret2
    exact ⟨rfl, HB3.out⟩



end Go.Proofs.Ytmccgkbbgicglaa.ScanRefW
