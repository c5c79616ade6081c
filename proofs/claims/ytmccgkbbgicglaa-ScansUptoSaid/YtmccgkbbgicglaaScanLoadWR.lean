/- The walk of scan.Load, and words for walks with scanners. No condition. -/
import Derived.Test.YtmccgkbbgicglaaQScanRefx3
import Derived.Test.YtmccgkbbgicglaaQScanRefx11
namespace Go.Proofs.Ytmccgkbbgicglaa.ScanLoadWR
open Go.RowKit Go.Proofs.Ytmccgkbbgicglaa.QScanRef Go.Proofs.YtmccgkbbgicglaaW.PrintWords Go.Proofs.YtmccgkbbgicglaaW.PrintLast Go.Proofs.YtmccgkbbgicglaaW.PrintMore
set_option linter.unusedVariables false
set_option linter.unusedSimpArgs false

/-! ### load11 -/
theorem drawn_below {w w' : World} (h : Drawn0 w w') : Below w.heap.size w w' := by
  obtain ⟨nd, rfl⟩ := h
  exact pw_below_drewN (Below.refl _ _) nd
theorem num_calls (a : Int) (w : World) : Calls Try.prog 12 #[.int .i64 a] w fun e w' => e = .returned (.int .i64 a) ∧ w = w' := by
  go_enter Try.func12, Try.ntmps12
  go_wp2
  go_ret
  exact ⟨rfl, rfl⟩
theorem same_calls (k : Nat) (A0 : Option Addr) (c0 : Nat) (l0 : List S49) (A1 : Option Addr) (c1 : Nat) (l1 : List S49) (r : Bool) (w : World) (hr0 : Kd.C k49 w A0 l0.length l0) (hc0 : l0.length ≤ c0) (hr1 : Kd.C k49 w A1 l1.length l1) (hc1 : l1.length ≤ c1) (h : bournelaw0_SameOps.f k l0 l1 = some r) :
    Calls Try.prog 15 #[.slice A0 l0.length c0, .slice A1 l1.length c1] w fun e w' => e = .returned (.bool r) ∧ Below w.heap.size w w' :=
  (bournelaw0_SameOps.calls k A0 c0 l0 A1 c1 l1 r w hr0 hc0 hr1 hc1 h).mono fun _ _ hh => ⟨hh.1, drawn_below hh.2⟩
theorem rw_keep {w0 W W' : World} {g : Nat} {f0 : ByteArray} {f1 : Int} {base : Nat} {ok : Nat → Prop} {v : Value} {xs : List S49} (h : Kd.R k49 49 W base ok v xs) (hI : IsS58 w0 W g f0 f1) (hk : KeepBut W W' g none) : Kd.R k49 49 W' base ok v xs :=
  Kd.R_mono (Kd.R_keep (IsS58.apart hI h (by decide)) hk (fun _ h => h.2)) (fun _ h => h.1)
/-- A state that a call has made, beside an elder one. -/
theorem new_st {w0 W W' : World} {g g' : Nat} {f0 f0' : ByteArray} {f1 f1' : Int} (hB : Below w0.heap.size w0 W) (hI : IsS58 w0 W g f0 f1) (h : IsS58 W W' g' f0' f1') : IsS58 w0 W' g' f0' f1' ∧ g' ≠ g :=
  ⟨⟨h.1, Nat.le_trans (below_size hB) h.2⟩, fun e => by have := IsS58.lt hI; have := h.2; omega⟩
theorem st_keep {w0 W W' : World} {g g' : Nat} {f0 : ByteArray} {f1 : Int} (h : IsS58 w0 W g' f0 f1) (hk : KeepBut W W' g none) (hne : g' ≠ g) : IsS58 w0 W' g' f0 f1 :=
  ⟨KeepBut.blk hk h.1 hne (by simp), h.2⟩
theorem blk_keep {w0 W W' : World} {g a : Nat} {f0 : ByteArray} {f1 : Int} {cs : Array Value} {t : Nat} (h : W.heap[a]? = some (.cells cs t (0, 0))) (ht : t ≠ 58) (hI : IsS58 w0 W g f0 f1) (hk : KeepBut W W' g none) : W'.heap[a]? = some (.cells cs t (0, 0)) :=
  KeepBut.blk hk h (fun e => IsS58.ne_blk hI h ht e.symm) (by simp)
theorem str_ne {a : ByteArray} (h : a.toList = ([] : List UInt8)) : (a.toList != ([] : List UInt8)) = false ∧ a.toList.isEmpty = true ∧ (a.toList = ([] : List UInt8)) = True := by rw [h]; exact ⟨rfl, rfl, eq_true rfl⟩
theorem str_ne' {a : ByteArray} (h : a.toList ≠ ([] : List UInt8)) : (a.toList != ([] : List UInt8)) = true ∧ a.toList.isEmpty = false ∧ (a.toList = ([] : List UInt8)) = False := ⟨bne_iff_ne.mpr h, by cases e : a.toList with
  | nil => exact absurd e h
  | cons _ _ => rfl, eq_false h⟩
set_option maxHeartbeats 8000000 in
theorem load_ok (K : Nat) (a0 : ByteArray) (b : Int) (x : ByteArray) (at_ e_ : Int) (w0 w : World) (hB : Below w0.heap.size w0 w) (h : frame_Get.f K a0 0 = some (x, at_, e_)) (h0 : 0 ≤ b) (h1 : b ≤ 1073741823) (h2 : a0.toList = ([] : List UInt8) ∨ e_ = 801) :
    Calls Try.prog 10 #[.string a0, .int .i64 b] w fun e w' => ∃ g : Nat, e = .returned (.tuple #[.pointer (some ⟨g, 0, none⟩), .int .i64 0]) ∧ IsS58 w0 w' g a0 b ∧ w.heap.size ≤ g ∧ Below w.heap.size w w' := by
  have HB := Aside0.mk hB
  have H := Aside0.mk h
  clear hB h
  have c0 : decide (b < 0) = false := decide_eq_false (by omega)
  have c1 : decide (1073741823 < b) = false := decide_eq_false (by omega)
  clear h0 h1
  have HC : ((a0.toList != ([] : List UInt8)) = false ∧ a0.toList.isEmpty = true ∧ (a0.toList = ([] : List UInt8)) = True) ∨ ((a0.toList != ([] : List UInt8)) = true ∧ a0.toList.isEmpty = false ∧ (a0.toList = ([] : List UInt8)) = False) ∧ (e_ != 801) = false := by
    by_cases z : a0.toList = ([] : List UInt8)
    · exact .inl (str_ne z)
    · exact .inr ⟨str_ne' z, bne_eq_false_iff_eq.2 (h2.resolve_left z)⟩
  clear h2
  go_enter Try.func10, Try.ntmps10
  go_wp2_with fail
  refine (frame_Get.calls K a0 0 x at_ e_ _ H.out).mono ?_
  rintro e w2 ⟨rfl, hb⟩
  have HB2 := Aside0.mk (below_step HB.out hb)
  have HB3 := Aside0.mk hb
  clear hb HB H
  rcases HC with ⟨c2, c4, c5⟩ | ⟨⟨c2, c4, c5⟩, c3⟩
  all_goals
    go_wp2_with fail
    go_ret2
    exact ⟨_, rfl, IsS58.new w0 w2 a0 b HB2.out, HB3.out.size, below_alloc HB3.out _⟩
set_option maxHeartbeats 8000000 in
theorem load_no (K : Nat) (a0 : ByteArray) (b : Int) (x : ByteArray) (at_ e_ : Int) (w : World) (h : frame_Get.f K a0 0 = some (x, at_, e_)) (hn : b < 0 ∨ 1073741823 < b ∨ (a0.toList ≠ ([] : List UInt8) ∧ e_ ≠ 801)) :
    Calls Try.prog 10 #[.string a0, .int .i64 b] w fun e w' => e = .returned (.tuple #[.pointer none, .int .i64 1100]) ∧ Below w.heap.size w w' := by
  have H := Aside0.mk h
  clear h
  have HC : (decide (b < 0) = true) ∨ ((decide (b < 0) = false) ∧ (decide (1073741823 < b) = true)) ∨ ((decide (b < 0) = false) ∧ (decide (1073741823 < b) = false) ∧ ((a0.toList != ([] : List UInt8)) = true ∧ a0.toList.isEmpty = false ∧ (a0.toList = ([] : List UInt8)) = False) ∧ (e_ != 801) = true) := by
    by_cases z : b < 0
    · exact .inl (decide_eq_true z)
    · by_cases y : 1073741823 < b
      · exact .inr (.inl ⟨decide_eq_false z, decide_eq_true y⟩)
      · obtain ⟨p, q⟩ := (hn.resolve_left z).resolve_left y
        exact .inr (.inr ⟨decide_eq_false z, decide_eq_false y, str_ne' p, bne_iff_ne.2 q⟩)
  clear hn
  go_enter Try.func10, Try.ntmps10
  go_wp2_with fail
  refine (frame_Get.calls K a0 0 x at_ e_ _ H.out).mono ?_
  rintro e w2 ⟨rfl, hb⟩
  have HB3 := Aside0.mk hb
  clear hb H
  rcases HC with c0 | ⟨c0, c1⟩ | ⟨c0, c1, ⟨c2, c4, c5⟩, c3⟩
  all_goals
    go_wp2_with fail
    go_ret2
    exact ⟨rfl, HB3.out⟩



end Go.Proofs.Ytmccgkbbgicglaa.ScanLoadWR
