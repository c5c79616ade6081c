/- The law RecordBack answers true at any record, bytes and cut: what may be is written and read again, what is read is written as it stood. Condition: none beyond the sizes that the row gives. -/
import Derived.Test.YtikfpihapdabfaaRecordBackWalk
namespace Go.Proofs.Ytikfpihapdabfaa.RecordBackMath
open Go.RowKit Go.Proofs.Ytikfpihapdabfaa.QRecordBack Go.Proofs.Ytikfpihapdabfaa.RecPure Go.Proofs.Ytikfpihapdabfaa.RecAwake Go.Proofs.Ytikfpihapdabfaa.RecordBackW Go.Proofs.YtikfpihapdabfaaW.PrintWords Go.Proofs.YtikfpihapdabfaaW.PrintLast Go.Proofs.YtikfpihapdabfaaW.PrintMore
set_option linter.unusedVariables false
set_option linter.unusedSimpArgs false


theorem nil_of {a : ByteArray} (h : 1 ≤ (L a).length) : (a.toList == ([] : List UInt8)) = false := by
  refine beq_eq_false_iff_ne.2 fun e => ?_
  have := (toList_lit a []).1 e
  rw [this] at h
  simp at h
theorem cut_ev (cut : Int) (n : Nat) (h1 : 1 ≤ n) (h2 : n ≤ 60) : ∃ C : Nat, wrap64 (Int.tmod (IntKind.u64.wrap cut) (n : Int)) = (C : Int) ∧ C < n := by
  have hn1 := Int.emod_nonneg (cut % 18446744073709551616) (show (n : Int) ≠ 0 by omega)
  have hn2 := Int.emod_lt_of_pos (cut % 18446744073709551616) (show (0 : Int) < (n : Int) by omega)
  obtain ⟨C, hC⟩ := Int.eq_ofNat_of_zero_le hn1
  refine ⟨C, ?_, by omega⟩
  rw [wrap_u64, Int.tmod_eq_emod_of_nonneg (by omega), hC, wrap64_id (by omega) (by omega)]
theorem back_walk (k q s st en v : Int) (ov : Bool) (A : Option Addr) (c : Nat) (l : List Int) (se ti sq by_ : Int) (t : ByteArray) (cut : Int) (w : World) (hr : Kd.C (Kd.int .i64) w A l.length l) (hc : l.length ≤ c)
    (g : ((Lit.int .i64 k).wf = true ∧ ((Lit.int .i64 q).wf = true ∧ (Lit.int .i64 s).wf = true ∧ ((Lit.int .i64 st).wf = true ∧ (Lit.int .i64 en).wf = true) ∧ ((Lit.int .i64 v).wf = true ∧ True ∧ (l.length * 8 ≤ 140737488351232 ∧ ∀ n ∈ l, (Lit.int .i64 n).wf = true))) ∧ (Lit.int .i64 se).wf = true ∧ (Lit.int .i64 ti).wf = true ∧ (Lit.int .i64 sq).wf = true ∧ (Lit.int .i64 by_).wf = true)) (ht : t.size ≤ 140737488351232) (hcut : (Lit.int .i64 cut).wf = true) :
    Calls Try.prog 4 #[.agg #[.int .i64 k, .int .i64 q, .int .i64 s, .int .i64 st, .int .i64 en, .int .i64 v, .bool ov, .slice A l.length c, .int .i64 se, .int .i64 ti, .int .i64 sq, .int .i64 by_], .string t, .int .i64 cut] w fun e w' => e = .returned (.bool true) ∧ Below w.heap.size w w' := by
  have hl : l.length < 9000000000000000000 := by have := g.2.1.2.2.2.2.2.1; omega
  have ht' : t.size ≤ 4611686018427387904 := by omega
  have T := get10 t ht' 40 (by decide)
  have hT := getR_cases (L t) (L_lt t)
  cases ho : RV.ok ⟨k, q, s, st, en, v, ov, l, se, ti, sq, by_⟩ with
  | true =>
    have P := put10 ho 40 (by decide)
    have ln := ok_len ho
    have hLa := L_renc ho
    generalize hren : renc ⟨k, q, s, st, en, v, ov, l, se, ti, sq, by_⟩ = e at *
    generalize haa : S e = a at *
    have has : a.size = e.length := by rw [← L_len, hLa]
    obtain ⟨C, hC, hCl⟩ := cut_ev cut a.size (by omega) (by omega)
    have G2 := get10 a (by omega) 40 (by decide)
    rw [hLa, ← hren, getR_enc ho] at G2
    have G3 := get10 (a.extract 0 C) (by rw [← L_len, L_extract, List.length_drop, List.length_take, L_len]; omega) 40 (by decide)
    rw [L_extract, List.drop_zero, hLa, ← hren, getR_cut ho C (by rw [hren]; omega)] at G3
    have hs1 := nil_of (a := a) (by rw [hLa]; omega)
    have hM : record_May.f k q s st en v ov l se ti sq by_ = some true := congrArg some ho
    rcases hT with e2 | ⟨⟨k2, q2, s2, st2, en2, v2, ov2, l2, se2, ti2, sq2, by2⟩, ho2, hl2, e2⟩
    · rw [e2] at T
      exact back_ok_un 40 k q s st en v ov A c l se ti sq by_ t cut w hr hc hl ⟨awake_all⟩ a C ⟨P⟩ ⟨hM⟩ ⟨G2⟩ ⟨G3⟩ hs1 (decide_eq_false (by omega)) (by omega) (by omega) (beq_eq_false_iff_ne.2 (by omega)) (by omega) hC (by omega) (by omega) ⟨T⟩
    · rw [e2] at T
      have P2 := put10 ho2 40 (by decide)
      rw [← hl2, S_L9] at P2
      exact back_ok_rd 40 k q s st en v ov A c l se ti sq by_ t cut w hr hc hl ⟨awake_all⟩ a C ⟨P⟩ ⟨hM⟩ ⟨G2⟩ ⟨G3⟩ hs1 (decide_eq_false (by omega)) (by omega) (by omega) (beq_eq_false_iff_ne.2 (by omega)) (by omega) hC (by omega) (by omega) k2 q2 s2 st2 en2 v2 ov2 l2 se2 ti2 sq2 by2 ⟨T⟩ ⟨P2⟩
  | false =>
    have P := put10_no ho 40
    have hM : record_May.f k q s st en v ov l se ti sq by_ = some false := congrArg some ho
    rcases hT with e2 | ⟨⟨k2, q2, s2, st2, en2, v2, ov2, l2, se2, ti2, sq2, by2⟩, ho2, hl2, e2⟩
    · rw [e2] at T
      exact back_no_un 40 k q s st en v ov A c l se ti sq by_ t cut w hr hc hl ⟨awake_all⟩ ⟨P⟩ ⟨hM⟩ ⟨T⟩
    · rw [e2] at T
      have P2 := put10 ho2 40 (by decide)
      rw [← hl2, S_L9] at P2
      exact back_no_rd 40 k q s st en v ov A c l se ti sq by_ t cut w hr hc hl ⟨awake_all⟩ ⟨P⟩ ⟨hM⟩ k2 q2 s2 st2 en2 v2 ov2 l2 se2 ti2 sq2 by2 ⟨T⟩ ⟨P2⟩

end Go.Proofs.Ytikfpihapdabfaa.RecordBackMath
