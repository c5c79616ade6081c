/- The law FrameSums answers true at any text and any two numbers: a sum hangs on each byte. No condition. -/
import Derived.Test.YtpnkkaociipojaaFrameSumsWalk
namespace Go.Proofs.Ytpnkkaociipojaa.FrameSumsMath
open Go.RowKit Go.Proofs.Ytpnkkaociipojaa.QFrames Go.Proofs.Ytpnkkaociipojaa.FrameWalk Go.Proofs.Ytpnkkaociipojaa.FrameAwake Go.Proofs.Ytpnkkaociipojaa.FrameSumsW Go.Proofs.YtpnkkaociipojaaW.PrintWords Go.Proofs.YtpnkkaociipojaaW.PrintLast Go.Proofs.YtpnkkaociipojaaW.PrintMore
set_option linter.unusedVariables false
set_option linter.unusedSimpArgs false


theorem xor_u8 (x y : Nat) (hx : x < 256) (hy : y < 256) : Go.bits .xor .u8 (x : Int) (y : Int) = ((x ^^^ y : Nat) : Int) := by
  show IntKind.u8.wrap (((BitVec.ofInt 8 (x : Int) ^^^ BitVec.ofInt 8 (y : Int)).toNat : Nat) : Int) = _
  have h : x ^^^ y < 2 ^ 8 := Nat.xor_lt_two_pow (n := 8) hx hy
  rw [BitVec.toNat_xor, BitVec.ofInt_natCast, BitVec.ofInt_natCast, BitVec.toNat_ofNat, BitVec.toNat_ofNat, Nat.mod_eq_of_lt hx, Nat.mod_eq_of_lt hy, IntKind.wrap_u8]
  omega
theorem L_put1 (s : ByteArray) (K c : Nat) (hc : c < 256) : L (put1 s K c) = (L s).set K c := by
  unfold put1
  rw [L_mk, List.map_set]
  unfold L
  congr 1
  simp
  omega
theorem sums_walk (s : ByteArray) (a b : Int) (w : World) (hs : s.size ≤ 140737488351232) (ha : (Lit.int .i64 a).wf = true) (hb : (Lit.int .i64 b).wf = true) :
    Calls Try.prog 7 #[.string s, .int .i64 a, .int .i64 b] w fun e w' => e = .returned (.bool true) ∧ Below w.heap.size w w' := by
  have hl := L_len s
  obtain ⟨K1, h1⟩ := sum_ev s (by omega)
  by_cases h0 : s.size = 0
  · have e : L s = [] := List.length_eq_zero_iff.1 (by omega)
    rw [e, c0] at h1
    exact sums_empty K1 s a b w (by rw [h0]; rfl) ⟨h1 K1 (Nat.le_refl _)⟩ ⟨awake_all⟩
  · have hw : IntKind.u64.wrap (s.size : Int) = (s.size : Int) := by rw [wrap_u64]; omega
    have hn := Int.emod_nonneg (a % 18446744073709551616) (show (s.size : Int) ≠ 0 by omega)
    have hlt := Int.emod_lt_of_pos (a % 18446744073709551616) (show (0 : Int) < (s.size : Int) by omega)
    obtain ⟨K, hK⟩ := Int.eq_ofNat_of_zero_le hn
    have hKl : K < s.size := by omega
    have hK2 : wrap64 (Int.tmod (IntKind.u64.wrap a) (IntKind.u64.wrap (s.size : Int))) = (K : Int) := by
      rw [hw, wrap_u64, Int.tmod_eq_emod_of_nonneg (by omega), hK, wrap64_id (by omega) (by omega)]
    have hKL : K < (L s).length := by omega
    have hB : bt s (K : Int) = (((L s)[K] : Nat) : Int) := by
      rw [bt_L, Int.toNat_natCast, List.getD_eq_getElem?_getD, List.getElem?_eq_getElem hKL]; rfl
    have hB2 : (L s)[K] < 256 := L_lt s _ (List.getElem_mem hKL)
    obtain ⟨d, hd⟩ := Int.eq_ofNat_of_zero_le (show 0 ≤ b % 128 by omega)
    have hd2 : d < 128 := by omega
    have hcd : Go.bits .xor .u8 (bt s (K : Int)) (wrap64 (1 + (Go.bits .and .i64 b 127)) % 256) = (((L s)[K] ^^^ (1 + d) : Nat) : Int) := by
      have e1 : wrap64 (1 + (Go.bits .and .i64 b 127)) % 256 = ((1 + d : Nat) : Int) := by
        rw [and_m b 7 127 128 (by decide) rfl rfl, hd, wrap64_id (by omega) (by omega)]; omega
      rw [e1, hB]
      exact xor_u8 _ _ hB2 (by omega)
    have hc2 : (L s)[K] ^^^ (1 + d) < 256 := Nat.xor_lt_two_pow (n := 8) hB2 (by show 1 + d < 256; omega)
    have hne : (L s)[K] ≠ (L s)[K] ^^^ (1 + d) := by
      intro h
      have h2 : 0 ^^^ (L s)[K] = (1 + d) ^^^ (L s)[K] := by rw [Nat.zero_xor, Nat.xor_comm (1 + d)]; exact h
      have := xor_can h2
      omega
    have hLp := L_put1 s K _ hc2
    obtain ⟨K2, h2⟩ := sum_ev (put1 s K ((L s)[K] ^^^ (1 + d))) (by rw [← L_len, hLp, List.length_set]; omega)
    rw [hLp] at h2
    have hlt1 := crc_lt (L s) (L_lt s)
    have hmem : ∀ x ∈ (L s).set K ((L s)[K] ^^^ (1 + d)), x < 256 := by rw [← hLp]; exact L_lt _
    have hlt2 := crc_lt _ hmem
    have hcrc : crc (L s) ≠ crc ((L s).set K ((L s)[K] ^^^ (1 + d))) := by
      intro h
      rw [List.set_eq_take_append_cons_drop, if_pos hKL] at h
      have e : L s = (L s).take K ++ (L s)[K] :: (L s).drop (K + 1) := by rw [← List.drop_eq_getElem_cons hKL, List.take_append_drop]
      have h3 : crc ((L s).take K ++ (L s)[K] :: (L s).drop (K + 1)) = crc ((L s).take K ++ ((L s)[K] ^^^ (1 + d)) :: (L s).drop (K + 1)) := by rw [← e]; exact h
      exact hne (crc_turn _ _ _ _ (fun x hx => L_lt s x (List.mem_of_mem_take hx)) (fun x hx => L_lt s x (List.mem_of_mem_drop hx)) hB2 hc2 h3)
    have g1 := h1 (K1 + K2) (by omega)
    have g2 := h2 (K1 + K2) (by omega)
    dsimp only at g1 g2
    generalize crc (L s) = x at *
    generalize crc ((L s).set K ((L s)[K] ^^^ (1 + d))) = y at *
    have z1 : ¬ IntKind.u64.wrap (s.size : Int) = 0 := by rw [hw]; omega
    exact sums_calls (K1 + K2) s a b K _ (x : Int) (y : Int) w (beq_eq_false_iff_ne.2 (by omega)) (beq_eq_false_iff_ne.2 z1) z1 hK2 hKl (by omega) (by omega) hcd hc2 ⟨g1⟩ ⟨g2⟩ (beq_eq_false_iff_ne.2 (by omega)) (bne_iff_ne.2 (by omega)) (decide_eq_true (by omega)) (decide_eq_true (by omega)) (decide_eq_true (by omega)) (decide_eq_true (by omega)) ⟨awake_all⟩

end Go.Proofs.Ytpnkkaociipojaa.FrameSumsMath
