/- The law Records answers true at any record and any bytes: what is written, read and told is the document's. Condition: none beyond the sizes that the row gives. -/
import Derived.Test.YtikfpihapdabfaaRecordsWalk
namespace Go.Proofs.Ytikfpihapdabfaa.RecordsMath
open Go.RowKit Go.Proofs.Ytikfpihapdabfaa.QRecords Go.Proofs.Ytikfpihapdabfaa.RecPureR Go.Proofs.Ytikfpihapdabfaa.RecAwakeR Go.Proofs.Ytikfpihapdabfaa.GetRecW Go.Proofs.Ytikfpihapdabfaa.RecRef Go.Proofs.Ytikfpihapdabfaa.RecordsW Go.Proofs.YtikfpihapdabfaaW.PrintWords Go.Proofs.YtikfpihapdabfaaW.PrintLast Go.Proofs.YtikfpihapdabfaaW.PrintMore
set_option linter.unusedVariables false
set_option linter.unusedSimpArgs false


theorem spoil_l0 (d : Nat) : ∀ (x : List Int) (i k : Nat), x.length ≤ 100 → x.length - i = d → i ≤ x.length → d < k → ∃ y, bournelaw0_SpoilInts.l0 k x (i : Int) = some y := by
  induction d with
  | zero =>
    intro x i k hx hd hi hk
    obtain ⟨k, rfl⟩ : ∃ m, k = m + 1 := ⟨k - 1, by omega⟩
    simp only [bournelaw0_SpoilInts.l0]
    rw [if_neg (by omega)]
    exact ⟨_, rfl⟩
  | succ d ih =>
    intro x i k hx hd hi hk
    obtain ⟨k, rfl⟩ : ∃ m, k = m + 1 := ⟨k - 1, by omega⟩
    have hw : wrap64 ((i : Int) + 1) = ((i + 1 : Nat) : Int) := by rw [wrap64_id (by omega) (by omega)]; omega
    simp only [bournelaw0_SpoilInts.l0]
    rw [if_pos (by omega), if_pos (by omega), hw]
    exact ih _ (i + 1) k (by rw [List.length_set]; omega) (by rw [List.length_set]; omega) (by rw [List.length_set]; omega) (by omega)
theorem spoil_ev (x : List Int) (hx : x.length ≤ 9) : ∃ y, bournelaw0_SpoilInts.f 40 x = some y := spoil_l0 x.length x 0 40 (by omega) (by omega) (by omega) (by omega)
theorem records_walk (k q s st en v : Int) (ov : Bool) (A : Option Addr) (c : Nat) (l : List Int) (se ti sq by_ : Int) (t : ByteArray) (w : World) (hr : Kd.C (Kd.int .i64) w A l.length l) (hc : l.length ≤ c)
    (g : ((Lit.int .i64 k).wf = true ∧ ((Lit.int .i64 q).wf = true ∧ (Lit.int .i64 s).wf = true ∧ ((Lit.int .i64 st).wf = true ∧ (Lit.int .i64 en).wf = true) ∧ ((Lit.int .i64 v).wf = true ∧ True ∧ (l.length * 8 ≤ 140737488351232 ∧ ∀ n ∈ l, (Lit.int .i64 n).wf = true))) ∧ (Lit.int .i64 se).wf = true ∧ (Lit.int .i64 ti).wf = true ∧ (Lit.int .i64 sq).wf = true ∧ (Lit.int .i64 by_).wf = true)) (ht : t.size ≤ 140737488351232) :
    Calls Try.prog 3 #[.agg #[.int .i64 k, .int .i64 q, .int .i64 s, .int .i64 st, .int .i64 en, .int .i64 v, .bool ov, .slice A l.length c, .int .i64 se, .int .i64 ti, .int .i64 sq, .int .i64 by_], .string t] w fun e w' => e = .returned (.bool true) ∧ Below w.heap.size w w' := by
  have ht' : t.size ≤ 4611686018427387904 := by omega
  have T := get10 t ht' 40 (by decide)
  have U := rget10 t ht' 40 (by decide)
  have hlen : (getR (L t)).1.l.length ≤ 9 := by
    rcases getR_cases (L t) (L_lt t) with e | ⟨r, ho, _, e⟩
    · rw [e]; exact Nat.zero_le _
    · rw [e]
      rcases ok_cases ho with z | z | z | z
      · exact z.2.2.2.2.2.2.2.2.2.2.2.1
      · rw [z.2.2.2.2.2.2.2.1]; exact Nat.zero_le _
      · rw [z.2.2.2.2.2.2.2.1]; exact Nat.zero_le _
      · rw [z.2.2.2.2.2.2.2.1]; exact Nat.zero_le _
  generalize getR (L t) = z at *
  obtain ⟨⟨k2, q2, s2, st2, en2, v2, ov2, l2, se2, ti2, sq2, by2⟩, e2⟩ := z
  dsimp only at hlen
  obtain ⟨lx, hx⟩ := spoil_ev l2 hlen
  obtain ⟨a, e1, hA, hB⟩ : ∃ (a : ByteArray) (e1 : Int), record_Put.f 40 k q s st en v ov l se ti sq by_ = some (a, e1) ∧ bourneref1_PutRec.f 40 k q s st en v ov l se ti sq by_ = some (a, e1) := by
    cases ho : RV.ok ⟨k, q, s, st, en, v, ov, l, se, ti, sq, by_⟩ with
    | true => exact ⟨_, _, put10 ho 40 (by decide), rput10 ho 40 (by decide)⟩
    | false => exact ⟨_, _, put10_no ho 40, rput10_no ho 40 (by decide)⟩
  exact records_calls 40 k q s st en v ov A c l se ti sq by_ t w hr hc ⟨awake_all⟩ a e1 (recB k q s st en v ov l se ti sq by_) k2 q2 s2 st2 en2 v2 ov2 l2 se2 ti2 sq2 by2 e2 (by omega) lx ⟨hA⟩ ⟨hB⟩ ⟨T⟩ ⟨U⟩ ⟨hx⟩ ⟨rfl⟩ ⟨rrec_eq k q s st en v ov l se ti sq by_ 40 (by decide)⟩

end Go.Proofs.Ytikfpihapdabfaa.RecordsMath
