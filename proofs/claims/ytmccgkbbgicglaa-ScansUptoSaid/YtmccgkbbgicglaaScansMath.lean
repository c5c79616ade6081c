/- The law Scans answers true where its parts and its text are of at most 1048576 letters each. -/
import Derived.Test.YtmccgkbbgicglaaScansW
import Derived.Test.YtmccgkbbgicglaaScanRefP
namespace Go.Proofs.Ytmccgkbbgicglaa.ScansMath
open Go.RowKit Go.Proofs.Ytmccgkbbgicglaa.QScanRef Go.Proofs.Ytmccgkbbgicglaa.ScanPureR Go.Proofs.Ytmccgkbbgicglaa.ScanAwakePureR Go.Proofs.Ytmccgkbbgicglaa.ScanAwakeR Go.Proofs.Ytmccgkbbgicglaa.ScanLoadWR Go.Proofs.Ytmccgkbbgicglaa.ScanRefW Go.Proofs.Ytmccgkbbgicglaa.ScanRefP Go.Proofs.Ytmccgkbbgicglaa.ScansW Go.Proofs.YtmccgkbbgicglaaW.PrintWords Go.Proofs.YtmccgkbbgicglaaW.PrintLast Go.Proofs.YtmccgkbbgicglaaW.PrintMore
set_option linter.unusedVariables false
set_option linter.unusedSimpArgs false


theorem cut_len {l : List Nat} (h : isCut l = true) : l.length < 64 := by
  have h2 : (getF l 0).2.2 = 801 := of_decide_eq_true h
  unfold getF at h2
  by_cases c1 : (0 < l.length ∧ l.getD 0 0 ≠ 181) ∨ (1 < l.length ∧ (l.getD 1 0 < 1 ∨ 60 < l.getD 1 0))
  · rw [if_pos c1] at h2; exact absurd h2 (by decide)
  · rw [if_neg c1] at h2
    by_cases c2 : l.length < 2 ∨ l.length < l.getD 1 0 + 4
    · omega
    · rw [if_neg c2] at h2
      split at h2
      · exact absurd (show (0 : Int) = 801 from h2) (by decide)
      · exact absurd (show (800 : Int) = 801 from h2) (by decide)
def good (l : ByteArray) (b : Int) : Prop := l.size < 64 ∧ 0 ≤ b ∧ b ≤ 1073741823
/-- One writing, the code's and the reference's. -/
theorem both_write {lx p : ByteArray} {bx : Int} (h : good lx bx) (hp : p.size ≤ 1048576) :
    ∃ K o l b, good l b ∧ o.length ≤ 100000000 ∧ ∀ k, K ≤ k → scan_Scanner_Write.f k lx bx p = some (o, l, b) ∧ bourneref1_Scanner_Write.f k lx bx p = some (o, l, b) ∧ bournelaw0_SameOps.f k o o = some true := by
  obtain ⟨h1, h2, h3⟩ := h
  obtain ⟨o, l, b, r, ⟨k1, e1⟩, f1, f2, f3, f4, f5, f6⟩ := write_ex lx p (by omega) h2 h3
  obtain ⟨k2, e2⟩ := rscan_write lx p (by omega) h2 h3 r
  obtain ⟨k3, e3⟩ := same_ev o (by omega)
  have hz := S_size f4
  refine ⟨k1 + k2 + k3, o, S l, b, ⟨?_, f1, f2⟩, f3, fun k hk => ⟨e1 k (by omega), e2 k (by omega), e3 k (by omega)⟩⟩
  rw [hz]
  rcases f6 with rfl | f6
  · decide
  · exact cut_len f6
theorem both_close {l : ByteArray} {b : Int} (h : good l b) :
    ∃ K o, ∀ k, K ≤ k → scan_Scanner_Close.f k l b = some (o, (⟨#[]⟩ : ByteArray), 0) ∧ bourneref1_Scanner_Close.f k l b = some (o, (⟨#[]⟩ : ByteArray), 0) ∧ bournelaw0_SameOps.f k o o = some true := by
  obtain ⟨h1, h2, h3⟩ := h
  obtain ⟨o, b', r, ⟨k1, e1⟩, f1⟩ := close_ex l (by omega) h2 h3
  obtain ⟨k2, e2⟩ := rscan_close l (by omega) h2 h3 r
  obtain ⟨k3, e3⟩ := same_ev (tell o b') (by omega)
  exact ⟨k1 + k2 + k3, tell o b', fun k hk => ⟨e1 k (by omega), e2 k (by omega), e3 k (by omega)⟩⟩
theorem scans_walk (A0 : Option Addr) (c0 : Nat) (parts : List ByteArray) (closes : Int) (waits : ByteArray) (bad : Int) (w : World) (hr : Kd.C Kd.string w A0 parts.length parts) (hl : parts.length ≤ c0) (g : parts.length ≤ 1048576 ∧ ∀ p ∈ parts, p.size ≤ 1048576)
    {q1 : Prop} (_ : q1) (hw : waits.size ≤ 1048576) {q2 : Prop} (_ : q2) :
    Calls Try.prog 3 #[.slice A0 parts.length c0, .int .i64 closes, .string waits, .int .i64 bad] w fun e w' => e = .returned (.bool true) ∧ Below w.heap.size w w' := by
  obtain ⟨g1, g2⟩ := g
  have ev1 := get_ev' waits 0 (Nat.zero_le _) (by omega)
  have ev2 := rgetf_ev waits 0 (Nat.zero_le _) (by omega)
  rw [List.drop_zero] at ev1 ev2
  obtain ⟨k1, e1⟩ := ev1
  obtain ⟨k2, e2⟩ := ev2
  have hLw := L_len waits
  have hlt := L_lt waits
  have hnil : (waits.toList = ([] : List UInt8)) ↔ L waits = [] := by rw [toList_lit]; rfl
  have g0 : good (⟨#[]⟩ : ByteArray) 0 := ⟨by decide +kernel, by decide, by decide⟩
  by_cases c : 0 ≤ bad ∧ bad ≤ 1073741823 ∧ (waits.toList = ([] : List UInt8) ∨ (getF (L waits) ((0 : Nat) : Int)).2.2 = 801)
  · have hgw : good waits bad := by
      refine ⟨?_, c.1, c.2.1⟩
      rcases c.2.2 with z | z
      · have := hnil.1 z; rw [this] at hLw; rw [← hLw]; decide
      · rw [← hLw]; exact cut_len (decide_eq_true z)
    refine scans_ok (k1 + k2) A0 c0 parts closes waits bad _ _ _ (fun lx bx ly by_ => good lx bx ∧ good ly by_) w hl ⟨awake_all⟩ ⟨hr⟩ ⟨by omega⟩ ⟨e1 _ (by omega)⟩ ⟨e2 _ (by omega)⟩ ⟨c⟩ ⟨g0, hgw⟩ ⟨?_⟩
    intro lx bx ly by_ p hP hp
    obtain ⟨K1, o, l, b, a1, a2, a3⟩ := both_write hP.1 (g2 p hp)
    obtain ⟨K2, oc, a4⟩ := both_close a1
    obtain ⟨K3, o2, l2, b2, a5, a6, a7⟩ := both_write hP.2 (g2 p hp)
    obtain ⟨z, K4, a8⟩ := spoil_ev o (by omega)
    obtain ⟨w1, w2, w3⟩ := a3 (K1 + K2 + K3 + K4) (by omega)
    obtain ⟨w4, w5, w6⟩ := a4 (K1 + K2 + K3 + K4) (by omega)
    obtain ⟨w7, w8, w9⟩ := a7 (K1 + K2 + K3 + K4) (by omega)
    exact ⟨_, o, l, b, z, w1, w2, w3, a8 _ (by omega), oc, w4, w5, w6, o2, l2, b2, w7, w8, w9, ⟨a1, a5⟩, ⟨g0, a5⟩⟩
  · refine scans_no (k1 + k2) A0 c0 parts closes waits bad _ _ _ (fun lx bx _ _ => good lx bx) w hl ⟨awake_all⟩ ⟨hr⟩ ⟨by omega⟩ ⟨e1 _ (by omega)⟩ ⟨e2 _ (by omega)⟩ ⟨?_⟩ ⟨g0⟩ ⟨?_⟩
    · by_cases z1 : bad < 0
      · exact .inl z1
      · by_cases z2 : 1073741823 < bad
        · exact .inr (.inl z2)
        · exact .inr (.inr ⟨fun z => c ⟨by omega, by omega, .inl z⟩, fun z => c ⟨by omega, by omega, .inr z⟩⟩)
    intro lx bx ly by_ p hP hp
    obtain ⟨K1, o, l, b, a1, a2, a3⟩ := both_write hP (g2 p hp)
    obtain ⟨K2, oc, a4⟩ := both_close a1
    obtain ⟨z, K4, a8⟩ := spoil_ev o (by omega)
    obtain ⟨w1, w2, w3⟩ := a3 (K1 + K2 + K4) (by omega)
    obtain ⟨w4, w5, w6⟩ := a4 (K1 + K2 + K4) (by omega)
    exact ⟨_, o, l, b, z, w1, w2, w3, a8 _ (by omega), oc, w4, w5, w6, [], (⟨#[]⟩ : ByteArray), 0, trivial, trivial, trivial, a1, g0⟩

end Go.Proofs.Ytmccgkbbgicglaa.ScansMath
