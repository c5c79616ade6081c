/- The law ScanFalse answers true at any operation and any number. No condition. -/
import Derived.Test.YtmccgkbbgicglaaScanFalseW
namespace Go.Proofs.Ytmccgkbbgicglaa.ScanFalseMath
open Go.RowKit Go.Proofs.Ytmccgkbbgicglaa.QScanAll Go.Proofs.Ytmccgkbbgicglaa.ScanPure Go.Proofs.Ytmccgkbbgicglaa.ScanAwakePure Go.Proofs.Ytmccgkbbgicglaa.ScanAwake Go.Proofs.Ytmccgkbbgicglaa.ScanFalseW Go.Proofs.YtmccgkbbgicglaaW.PrintWords Go.Proofs.YtmccgkbbgicglaaW.PrintLast Go.Proofs.YtmccgkbbgicglaaW.PrintMore
set_option linter.unusedVariables false
set_option linter.unusedSimpArgs false


theorem head99 {l r : List Nat} (hl : ∀ y ∈ l, y < 256) (e : l = 99 :: r) : (getM l).2.2.2.2.2 = 900 := by
  rcases getM_cases l hl with h | ⟨a0, a1, a2, a3, a4, hm, he, h⟩
  · rw [h]
  · exfalso
    have hr := oMay_rng hm
    obtain ⟨t, ht⟩ := olist_head a0 a1 a2 a3 a4
    rw [oenc_list, ht, ScanPure.encs, e] at he
    have h3 : a0 = 0 ∨ a0 = 1 ∨ a0 = 2 := by omega
    rcases h3 with rfl | rfl | rfl
    · rw [show enc (zig 0) = [0] by decide +kernel] at he; simp at he
    · rw [show enc (zig 1) = [2] by decide +kernel] at he; simp at he
    · rw [show enc (zig 2) = [4] by decide +kernel] at he; simp at he
theorem false_run (A : S49) (hm : may5 A = true) (hl : (fr A).length ≤ 40) (m : Nat) (h7 : m ≤ 7) :
    ∃ i : Nat, i ≤ 2 ∧ Run false (putF (99 :: List.replicate m 0 ++ fr A)) [] 0 [⟨3, 0, 0, 0, 3 + (m : Int)⟩, A] ((two (crc ((99 :: List.replicate m 0 ++ fr A).length :: (99 :: List.replicate m 0 ++ fr A)))).drop i) i := by
  have hlen : (99 :: List.replicate m 0 ++ fr A).length = m + 1 + (fr A).length := by simp; omega
  have hlt : ∀ y ∈ 99 :: List.replicate m 0 ++ fr A, y < 256 := by
    intro y hy
    rcases List.mem_append.1 hy with hy | hy
    · exact bodyL_lt m y hy
    · exact fr_lt A y hy
  have hg := getF_fr (b := 99 :: List.replicate m 0 ++ fr A) (r := []) (by omega) (by omega) 0
  rw [List.append_nil] at hg
  have hh : hit (putF (99 :: List.replicate m 0 ++ fr A)) = none := by
    unfold hit
    rw [hg]
    exact if_neg (fun c => by have := head99 hlt rfl; rw [this] at c; exact absurd c.2 (by decide))
  have hc : isCut (putF (99 :: List.replicate m 0 ++ fr A)) = false := by unfold isCut; rw [hg]; rfl
  generalize hB : 99 :: List.replicate m 0 ++ fr A = B at *
  obtain ⟨i, hi, hr⟩ := run_short (two (crc (B.length :: B))) [⟨3, 0, 0, 0, 3 + (m : Int)⟩, A] 0 (by show (2 : Nat) < 5; decide) (by show (0 : Int) + ((2 : Nat) : Int) ≤ _; decide)
  refine ⟨i, hi, ?_⟩
  have e : putF B = 181 :: ((B.length :: 99 :: List.replicate m 0) ++ (fr A ++ two (crc (B.length :: B)))) := by
    unfold putF
    generalize two (crc (B.length :: B)) = t
    rw [← hB]; simp
  rw [e] at hh hc ⊢
  refine Run.bad _ _ _ _ _ _ _ (fun z => by rw [hc] at z; cases z) hh ?_
  rw [bump_eq (by decide)]
  refine run_junk _ _ ?_ ?_ ?_
  · intro c hc
    rcases List.mem_cons.1 hc with rfl | hc
    · omega
    · rcases List.mem_cons.1 hc with rfl | hc
      · decide
      · rw [(List.mem_replicate.1 hc).2]; decide
  · simp only [List.length_cons, List.length_replicate]; omega
  · have e2 : (0 : Int) + 1 + ((B.length :: 99 :: List.replicate m 0).length : Int) = 3 + (m : Int) := by simp only [List.length_cons, List.length_replicate]; omega
    rw [e2]
    refine run_fr hm ?_
    have e3 : tell [] (3 + (m : Int)) ++ [A] = [⟨3, 0, 0, 0, 3 + (m : Int)⟩, A] := by unfold tell; rw [if_neg (by omega)]; rfl
    rw [e3]
    rw [Int.zero_add] at hr
    exact hr
theorem scanfalse_walk (a0 a1 a2 a3 a4 ahead : Int) (w : World) {p q : Prop} (_ : p) (_ : q) :
    Calls Try.prog 7 #[.agg #[.int .i64 a0, .int .i64 a1, .int .i64 a2, .int .i64 a3, .int .i64 a4], .int .i64 ahead] w fun e w' => e = .returned (.bool true) ∧ Below w.heap.size w w' := by
  have hk : Go.bits .and .i64 ahead 7 = ((ahead % 8).toNat : Int) := by
    rw [and_m ahead 3 7 8 (by decide) (by decide) (by decide)]; omega
  have hm7 : (ahead % 8).toNat ≤ 7 := by omega
  generalize (ahead % 8).toNat = m at hk hm7
  obtain ⟨k1, h1⟩ := framed_ev a0 a1 a2 a3 a4
  have hlt := fr_lt ⟨a0, a1, a2, a3, a4⟩
  have hsz := S_size hlt
  generalize hA : (⟨a0, a1, a2, a3, a4⟩ : S49) = A at *
  by_cases c : fr A = []
  · refine false_calls k1 a0 a1 a2 a3 a4 ahead m (S (fr A)) (S []) (S []) (S []) 0 0 [⟨3, 0, 0, 0, 3 + (m : Int)⟩] [⟨a0, a1, a2, a3, a4⟩, ⟨3, 0, 0, 0, 2⟩] _ w ⟨awake_all⟩ ⟨h1 _ (Nat.le_refl _)⟩ hk ⟨hm7⟩ ⟨rfl⟩ ⟨rfl⟩ (.inl ?_)
    have e : (S (fr A)).toList = ([] : List UInt8) := by rw [toList_lit, L_S hlt, c]; rfl
    rw [e]; exact ⟨rfl, rfl, eq_true rfl⟩
  · have hn : ((S (fr A)).toList == ([] : List UInt8)) = false ∧ (S (fr A)).toList.isEmpty = false ∧ ((S (fr A)).toList = ([] : List UInt8)) = False := by
      have e : (S (fr A)).toList ≠ ([] : List UInt8) := fun z => c (by rw [toList_lit, L_S hlt] at z; exact z)
      refine ⟨beq_eq_false_iff_ne.2 e, ?_, eq_false e⟩
      cases z : (S (fr A)).toList with
      | nil => exact absurd z e
      | cons _ _ => rfl
    by_cases c4 : 40 < (fr A).length
    · exact false_calls k1 a0 a1 a2 a3 a4 ahead m (S (fr A)) (S []) (S []) (S []) 0 0 [⟨3, 0, 0, 0, 3 + (m : Int)⟩] [⟨a0, a1, a2, a3, a4⟩, ⟨3, 0, 0, 0, 2⟩] _ w ⟨awake_all⟩ ⟨h1 _ (Nat.le_refl _)⟩ hk ⟨hm7⟩ ⟨rfl⟩ ⟨rfl⟩
        (.inr (.inl ⟨hn, decide_eq_true (by omega), eq_true (by omega)⟩))
    · have hm : may5 A = true := by
        cases e : may5 A with
        | true => rfl
        | false => exact absurd (fr_pos.2 e) c
      obtain ⟨i, hi, hr⟩ := false_run A hm (by omega) m hm7
      have hlB : ∀ y ∈ 99 :: List.replicate m 0 ++ fr A, y < 256 := by
        intro y hy
        rcases List.mem_append.1 hy with hy | hy
        · exact bodyL_lt m y hy
        · exact hlt y hy
      have hLB : L (bodyL m ++ S (fr A)) = 99 :: List.replicate m 0 ++ fr A := by
        unfold bodyL; rw [L_append, L_S (bodyL_lt m), L_S hlt]
      have hlen : (99 :: List.replicate m 0 ++ fr A).length = m + 1 + (fr A).length := by simp; omega
      have hBs : (bodyL m ++ S (fr A)).size = m + 1 + (fr A).length := by rw [← L_len, hLB, hlen]
      obtain ⟨k2, h2⟩ := rput_ok (bodyL m ++ S (fr A)) (by omega) (by omega)
      rw [hLB] at h2
      generalize 99 :: List.replicate m 0 ++ fr A = B at *
      have hpl := putF_lt B hlB (by omega)
      have hps := S_size hpl
      rw [putF_len'] at hps
      have htw : (two (crc (B.length :: B))).length = 2 := rfl
      have htl : ∀ y ∈ (two (crc (B.length :: B))).drop i, y < 256 := fun y hy => two_lt _ y (List.mem_of_mem_drop hy)
      obtain ⟨k3, h3⟩ := scan_write (⟨#[]⟩ : ByteArray) (S (putF B)) (by rw [show (⟨#[]⟩ : ByteArray).size = 0 from rfl]; omega) (b := 0) (by decide) (by decide) (by
        rw [show L (⟨#[]⟩ : ByteArray) = [] by decide +kernel, L_S hpl, List.nil_append]; exact hr)
      have hdl : ((two (crc (B.length :: B))).drop i).length = 2 - i := by rw [List.length_drop, htw]
      have hrl := run_last ((two (crc (B.length :: B))).drop i) [] (i : Int) (by omega) (by omega)
      obtain ⟨k4, h4⟩ := scan_close (S ((two (crc (B.length :: B))).drop i)) (by rw [S_size htl]; omega) (b := (i : Int)) (by omega) (by omega) (by rw [L_S htl]; exact hrl)
      have e2 : tell [] ((i : Int) + (((two (crc (B.length :: B))).drop i).length : Int)) = [⟨3, 0, 0, 0, 2⟩] := by
        have : (i : Int) + (((two (crc (B.length :: B))).drop i).length : Int) = 2 := by omega
        rw [this]; rfl
      rw [e2] at h4
      obtain ⟨k5, h5⟩ := same_ev ([⟨3, 0, 0, 0, 3 + (m : Int)⟩, A, ⟨3, 0, 0, 0, 2⟩] : List S49) (by simp)
      obtain ⟨k6, h6⟩ := scan_write (⟨#[]⟩ : ByteArray) (S (fr A)) (by rw [show (⟨#[]⟩ : ByteArray).size = 0 from rfl]; omega) (b := 0) (by decide) (by decide) (o' := [A]) (l' := []) (b' := 0) (by
        rw [show L (⟨#[]⟩ : ByteArray) = [] by decide +kernel, L_S hlt, List.nil_append]
        have := run_fr (last := false) hm (o := []) (b := 0) (r := []) (Run.nil _ _)
        rw [List.append_nil] at this
        exact this)
      obtain ⟨k7, h7⟩ := same_ev [A] (by simp)
      subst hA
      exact false_calls (k1 + k2 + k3 + k4 + k5 + k6 + k7) a0 a1 a2 a3 a4 ahead m _ (S (putF B)) _ _ _ _ [⟨3, 0, 0, 0, 3 + (m : Int)⟩, ⟨a0, a1, a2, a3, a4⟩] [⟨3, 0, 0, 0, 2⟩] _ w ⟨awake_all⟩ ⟨h1 _ (by omega)⟩ hk ⟨hm7⟩ ⟨rfl⟩ ⟨rfl⟩
        (.inr (.inr ⟨hn, ⟨decide_eq_false (by omega), eq_false (by omega)⟩, ⟨by omega, by simp, ⟨h2 _ (by omega)⟩, ⟨h3 _ (by omega)⟩, ⟨h4 _ (by omega)⟩, ⟨h5 _ (by omega)⟩, ⟨h6 _ (by omega)⟩, ⟨h7 _ (by omega)⟩⟩⟩))

end Go.Proofs.Ytmccgkbbgicglaa.ScanFalseMath
