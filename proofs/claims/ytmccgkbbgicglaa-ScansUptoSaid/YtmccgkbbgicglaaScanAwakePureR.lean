/- What awake's callees answer. No condition. -/
import Derived.Test.YtmccgkbbgicglaaScanPureR
namespace Go.Proofs.Ytmccgkbbgicglaa.ScanAwakePureR
open Go.RowKit Go.Proofs.Ytmccgkbbgicglaa.QScanRef Go.Proofs.Ytmccgkbbgicglaa.ScanPureR Go.Proofs.YtmccgkbbgicglaaW.PrintWords Go.Proofs.YtmccgkbbgicglaaW.PrintLast Go.Proofs.YtmccgkbbgicglaaW.PrintMore
set_option linter.unusedVariables false
set_option linter.unusedSimpArgs false

/-! ### awake11 -/
theorem same_l0' (l : List S49) (hl : l.length ≤ 4611686018427387904) (d : Nat) : ∀ i : Nat, l.length - i = d → i ≤ l.length → Ev (fun k => bournelaw0_SameOps.l0 k l l (i : Int)) true := by
  induction d with
  | zero =>
    intro i hd hi
    refine Ev.step (f := fun _ => some true) (fun k => ?_) (Ev.now _)
    simp only [bournelaw0_SameOps.l0]
    rw [if_neg (by omega)]
  | succ d ih =>
    intro i hd hi
    refine Ev.step (fun k => ?_) (ih (i + 1) (by omega) (by omega))
    simp only [bournelaw0_SameOps.l0]
    have hw : wrap64 ((i : Int) + 1) = ((i + 1 : Nat) : Int) := by rw [wrap64_id (by omega) (by omega)]; omega
    rw [if_pos (by omega), if_pos (by omega), if_pos (by omega), if_neg (by simp), hw]
theorem same_ev (l : List S49) (hl : l.length ≤ 4611686018427387904) : Ev (fun k => bournelaw0_SameOps.f k l l) true := by
  refine Ev.congr (fun k => ?_) (same_l0' l hl l.length 0 rfl (Nat.zero_le _))
  unfold bournelaw0_SameOps.f
  rw [if_pos rfl]; rfl
def oA : S49 := ⟨1, 1, 0, 7, 0⟩
theorem mayA : may5 oA = true := by decide +kernel
theorem encA : enc5 oA = [2, 2, 14] := by decide +kernel
theorem lenA : (fr oA).length = 7 := by rw [fr_len mayA, encA]; rfl
def sA : ByteArray := S (fr oA)
theorem L_sA : L sA = fr oA := L_S (fr_lt _)
theorem szA : sA.size = 7 := by rw [← L_len, L_sA, lenA]
theorem a1_ev : Ev (fun k => bournelaw11_framed.f k 1 1 0 7 0) sA := framed_ev 1 1 0 7 0
theorem a2_ev : Ev (fun k => wire_Put.f k 1 1 0 7 0) (S (enc5 oA), 0) := ⟨20, fun k hk => wput_ok (a0 := 1) (a1 := 1) (a2 := 0) (a3 := 7) (a4 := 0) mayA k hk⟩
theorem a3_ev : Ev (fun k => frame_Put.f k (S (enc5 oA))) (sA, 0) := by
  have hs := S_size (enc5_lt mayA)
  have hl := enc5_len mayA
  have h := put_ok (S (enc5 oA)) (by omega) (by omega)
  rw [L_S (enc5_lt mayA)] at h
  have e : sA = S (putF (enc5 oA)) := by unfold sA fr; rw [if_pos mayA]
  rw [e]; exact h
theorem L_take (s : ByteArray) (n : Nat) : L (s.extract 0 n) = (L s).take n := by rw [L_extract, List.drop_zero]
theorem x_take (s : ByteArray) (n : Nat) : s.extract 0 n = S ((L s).take n) := by rw [← S_L0 (s.extract 0 n), L_take]
theorem L_from (s : ByteArray) (n : Nat) : L (s.extract n s.size) = (L s).drop n := by rw [L_extract, List.take_of_length_le (by rw [L_len]; exact Nat.le_refl _)]
theorem a4_ev : Ev (fun k => scan_Scanner_Write.f k (⟨#[]⟩ : ByteArray) 0 ((⟨#[113, 113]⟩ : ByteArray) ++ sA.extract 0 3)) ([], sA.extract 0 3, 2) := by
  have hr : Run false (L (⟨#[]⟩ : ByteArray) ++ L ((⟨#[113, 113]⟩ : ByteArray) ++ sA.extract 0 3)) [] 0 [] ((fr oA).take 3) 2 := by
    rw [L_append, L_take, L_sA, show L (⟨#[]⟩ : ByteArray) = [] by decide +kernel, show L (⟨#[113, 113]⟩ : ByteArray) = [113, 113] by decide +kernel, List.nil_append]
    refine run_junk [113, 113] 0 (by decide) (by decide) ?_
    exact Run.cut _ _ _ (by intro z; have := congrArg List.length z; rw [List.length_take, lenA] at this; simp at this) (cut_fr oA 3 (by rw [lenA]; decide)) rfl
  have h := scan_write (⟨#[]⟩ : ByteArray) ((⟨#[113, 113]⟩ : ByteArray) ++ sA.extract 0 3) (by
    rw [← L_len, ← L_len, L_append, L_take, L_sA, List.length_append, List.length_take, lenA, show (L (⟨#[]⟩ : ByteArray)).length = 0 by decide +kernel, show (L (⟨#[113, 113]⟩ : ByteArray)).length = 2 by decide +kernel]; decide) (by decide) (by decide) hr
  rw [x_take, L_sA]; rw [x_take, L_sA] at h
  exact h
theorem a5_ev : Ev (fun k => scan_Scanner_Write.f k (sA.extract 0 3) 2 (sA.extract 3 sA.size ++ (⟨#[122]⟩ : ByteArray))) ([⟨3, 0, 0, 0, 2⟩, oA], (⟨#[]⟩ : ByteArray), 1) := by
  have hz : L (⟨#[122]⟩ : ByteArray) = [122] := by decide +kernel
  have hr : Run false (L (sA.extract 0 3) ++ L (sA.extract 3 sA.size ++ (⟨#[122]⟩ : ByteArray))) [] 2 [⟨3, 0, 0, 0, 2⟩, oA] [] 1 := by
    rw [L_append, L_take, L_from, L_sA, hz, ← List.append_assoc, List.take_append_drop]
    refine run_fr mayA ?_
    have := run_junk (last := false) (o := [⟨3, 0, 0, 0, 2⟩, oA]) [122] 0 (by decide) (by decide) (Run.nil _ _)
    exact this
  have h := scan_write (sA.extract 0 3) (sA.extract 3 sA.size ++ (⟨#[122]⟩ : ByteArray)) (by
    rw [← L_len, ← L_len, L_append, L_take, L_from, L_sA, hz, List.length_append, List.length_take, List.length_drop, lenA]; decide) (by decide) (by decide) hr
  exact h
theorem a6_ev : Ev (fun k => scan_Scanner_Close.f k (⟨#[]⟩ : ByteArray) 1) ([⟨3, 0, 0, 0, 1⟩], (⟨#[]⟩ : ByteArray), 0) := by
  have hr : Run true (L (⟨#[]⟩ : ByteArray)) [] 1 [] [] 1 := by
    rw [show L (⟨#[]⟩ : ByteArray) = [] by decide +kernel]; exact Run.nil _ _
  exact scan_close (⟨#[]⟩ : ByteArray) (by decide +kernel) (by decide) (by decide) hr
theorem a7_ev : Ev (fun k => frame_Get.f k (⟨#[122]⟩ : ByteArray) 0) ((⟨#[]⟩ : ByteArray), 0, 800) := by
  have h := get_ev' (⟨#[122]⟩ : ByteArray) 0 (Nat.zero_le _) (by decide +kernel)
  rw [show L (⟨#[122]⟩ : ByteArray) = [122] by decide +kernel] at h
  exact h
theorem get0_cut (s : ByteArray) (hs : s.size ≤ 4611686018427387904) (h : isCut (L s) = true) : Ev (fun k => frame_Get.f k s 0) (S (getF (L s) 0).1, (getF (L s) 0).2.1, 801) := by
  have g := get_ev' s 0 (Nat.zero_le _) hs
  rw [List.drop_zero, show (((0 : Nat) : Int)) = 0 from rfl, show (getF (L s) 0).2.2 = 801 from of_decide_eq_true h] at g
  exact g
theorem a8_ev : Ev (fun k => frame_Get.f k (sA.extract 0 4) 0) (S (getF (L (sA.extract 0 4)) 0).1, (getF (L (sA.extract 0 4)) 0).2.1, 801) :=
  get0_cut _ (by rw [← L_len, L_take, List.length_take]; omega) (by rw [L_take, L_sA]; exact cut_fr oA 4 (by rw [lenA]; decide))



end Go.Proofs.Ytmccgkbbgicglaa.ScanAwakePureR
