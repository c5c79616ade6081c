/- The reference's functions of a record, as plain functions. No condition beyond a text's size. -/
import Derived.Test.YtikfpihapdabfaaRecPureR
import Derived.Test.YtikfpihapdabfaaGetRecWalk
import Derived.Test.YtikfpihapdabfaaQRecordsx9
import Derived.Test.YtikfpihapdabfaaQRecordsx7
import Derived.Test.YtikfpihapdabfaaQRecordsx12
import Derived.Test.YtikfpihapdabfaaQRecordsx4
import Derived.Test.YtikfpihapdabfaaQRecordsx5
import Derived.Test.YtikfpihapdabfaaQRecordsx6
namespace Go.Proofs.Ytikfpihapdabfaa.RecRef
open Go.RowKit Go.Proofs.Ytikfpihapdabfaa.QRecords Go.Proofs.Ytikfpihapdabfaa.RecPureR Go.Proofs.Ytikfpihapdabfaa.GetRecW Go.Proofs.YtikfpihapdabfaaW.PrintWords Go.Proofs.YtikfpihapdabfaaW.PrintLast Go.Proofs.YtikfpihapdabfaaW.PrintMore
set_option linter.unusedVariables false
set_option linter.unusedSimpArgs false


theorem rput_l0 (n : Nat) : ∀ (u : Nat) (acc : List Nat), u < 128 ^ (n + 1) → u < 18446744073709551616 → acc.length + n + 1 < 140737488355328 → ∀ k, n < k → bourneref1_PutNum.l0 k (u : Int) (acc.map fun n : Nat => (n : Int)) = some (S (acc ++ enc u)) := by
  induction n with
  | zero =>
    intro u acc hu hu2 hl k hk
    obtain ⟨k, rfl⟩ : ∃ m, k = m + 1 := ⟨k - 1, by omega⟩
    have hu : u < 128 := by simpa using hu
    simp only [bourneref1_PutNum.l0]
    rw [if_neg (by omega), List.length_map, if_pos (by omega), enc_small hu]
    rw [show (u : Int) % 256 = (u : Int) by omega]
    simp [S]
  | succ n ih =>
    intro u acc hu hu2 hl k hk
    obtain ⟨k, rfl⟩ : ∃ m, k = m + 1 := ⟨k - 1, by omega⟩
    simp only [bourneref1_PutNum.l0]
    by_cases h : u < 128
    · rw [if_neg (by omega), List.length_map, if_pos (by omega), enc_small h]
      rw [show (u : Int) % 256 = (u : Int) by omega]
      simp [S]
    · rw [if_pos (by omega), List.length_map, if_pos (by omega)]
      have e1 : (u : Int) / 128 = ((u / 128 : Nat) : Int) := by omega
      have e2 : (Go.bits .or .u64 (Go.bits .and .u64 (u : Int) 127) 128) % 256 = ((u % 128 + 128 : Nat) : Int) := by
        rw [and127u u hu2]; exact or128u_all ⟨u % 128, by omega⟩
      rw [e1, e2, enc_big h]
      rw [Nat.pow_succ] at hu
      have := ih (u / 128) (acc ++ [u % 128 + 128]) (by omega) (by omega) (by simp; omega) k (by omega)
      rw [List.map_append] at this
      simp only [List.map_cons, List.map_nil] at this
      rw [this, List.append_assoc]; rfl
theorem rput_ev {x : Int} (h1 : -9223372036854775808 ≤ x) (h2 : x ≤ 9223372036854775807) : ∀ k, 12 ≤ k → bourneref1_PutNum.f k x = some (S (enc (zig x))) := by
  intro k hk
  obtain ⟨k, rfl⟩ : ∃ m, k = m + 1 := ⟨k - 1, by omega⟩
  have hz := zig_lt h1 h2
  have hfin : bourneref1_PutNum.j0 (k + 1) ((zig x : Nat) : Int) = some (S (enc (zig x))) := by
    simp only [bourneref1_PutNum.j0]
    exact rput_l0 9 (zig x) [] (Nat.lt_of_lt_of_le hz (by decide)) hz (by simp) k (by omega)
  unfold bourneref1_PutNum.f
  by_cases h : x < 0
  · have e2 : IntKind.u64.wrap ((IntKind.u64.wrap x) * 2) = (((2 * x + 18446744073709551616).toNat : Nat) : Int) := by rw [wrap_u64, wrap_u64]; omega
    rw [if_pos h, e2, xor64_ones' _ (by omega), ← hfin]
    congr 1; unfold zig; rw [if_neg (by omega)]; omega
  · have e2 : IntKind.u64.wrap ((IntKind.u64.wrap x) * 2) = ((zig x : Nat) : Int) := by unfold zig; rw [if_pos (by omega), wrap_u64, wrap_u64]; omega
    rw [if_neg h, e2, hfin]
theorem ror_sh (l : List Nat) (i c : Nat) (hil : i ≤ l.length) (h9 : i ≤ 9) (hc : c < 128) (hc9 : i < 9 ∨ c ≤ 1) :
    Go.bits .or .u64 ((val (l.take i) : Nat) : Int) (shl .u64 ((c : Nat) : Int) ((7 * i : Nat) : Int)) = ((val (l.take i) + 128 ^ i * c : Nat) : Int) := by
  have hvl := val_lt (l.take i)
  rw [List.length_take, Nat.min_eq_left hil] at hvl
  have hp7 : (128 : Nat) ^ i = 2 ^ (7 * i) := by rw [show (128 : Nat) = 2 ^ 7 from rfl, ← Nat.pow_mul]
  have hv64 : val (l.take i) < 2 ^ 64 := by
    have : (128 : Nat) ^ i ≤ 128 ^ 9 := Nat.pow_le_pow_right (by decide) (by omega)
    exact Nat.lt_of_lt_of_le hvl (Nat.le_trans this (by decide))
  have hpb : 128 ^ i * c < 18446744073709551616 := by
    rcases hc9 with h9 | h1
    · have h1 : (128 : Nat) ^ i ≤ 128 ^ 8 := Nat.pow_le_pow_right (by decide) (by omega)
      have h2 : 128 ^ i * c ≤ 128 ^ 8 * 127 := Nat.mul_le_mul h1 (by omega)
      exact Nat.lt_of_le_of_lt h2 (by decide)
    · have h1' : (128 : Nat) ^ i ≤ 128 ^ 9 := Nat.pow_le_pow_right (by decide) (by omega)
      have h2 : 128 ^ i * c ≤ 128 ^ 9 * 1 := Nat.mul_le_mul h1' h1
      exact Nat.lt_of_le_of_lt h2 (by decide)
  have hsl : shl .u64 ((c : Nat) : Int) ((7 * i : Nat) : Int) = ((128 ^ i * c : Nat) : Int) := by
    unfold shl
    rw [Int.toNat_natCast, Nat.min_eq_left (by show 7 * i ≤ 64; omega), show ((2 : Int) ^ (7 * i)) = ((2 ^ (7 * i) : Nat) : Int) by simp, ← hp7, ← Int.natCast_mul, Nat.mul_comm c]
    exact wrap_u64_id (by omega) (by omega)
  rw [hsl]
  generalize val (l.take i) = v at *
  have := (bits_nat .u64 64 (Nat.le_refl _) (fun n h0 h1 => wrap_u64_id h0 (by simpa using h1)) v (128 ^ i * c) hv64 (by simpa using hpb)).2
  rw [this, Nat.or_comm, hp7, ← Nat.two_pow_add_eq_or_of_lt (by rw [← hp7]; exact hvl), Nat.add_comm]
theorem rfin (v p i : Nat) (hv : v < 18446744073709551616) (hp : p ≤ 4611686018427387904) (hi : i ≤ 10) :
    (if (Go.bits .and .u64 (v : Int) 1) = 1 then (some (wrap64 ((wrap64 (-(wrap64 ((v : Int) / 2)))) - 1), wrap64 ((wrap64 ((p : Int) + (i : Int))) + 1), (0 : Int))) else (some (wrap64 ((v : Int) / 2), wrap64 ((wrap64 ((p : Int) + (i : Int))) + 1), 0)))
      = some (unzig v, (p : Int) + ((i + 1 : Nat) : Int), 0) := by
  have w1 : wrap64 (wrap64 ((p : Int) + (i : Int)) + 1) = (p : Int) + ((i + 1 : Nat) : Int) := by
    rw [wrap64_id (n := (p : Int) + (i : Int)) (by omega) (by omega), wrap64_id (by omega) (by omega)]; omega
  rw [and64_one v hv, w1, show (v : Int) / 2 = ((v / 2 : Nat) : Int) by omega, wrap64_id (n := ((v / 2 : Nat) : Int)) (by omega) (by omega)]
  clear w1
  unfold unzig
  by_cases c : v % 2 = 0
  · rw [if_neg (by omega), if_pos c]
  · rw [if_pos (by omega), if_neg c, wrap64_id (n := -((v / 2 : Nat) : Int)) (by omega) (by omega), wrap64_id (by omega) (by omega)]
theorem getS_small (l : List Nat) (p : Int) (i : Nat) (hlt : i < l.length) (h9 : i < 10) (hf : fin (l.take i) = 0) (hsm : l[i] < 128) :
    getS l p = if (i = 9 ∧ 1 < l[i]) ∨ (0 < i ∧ l[i] = 0) then (0, 0, 700) else (unzig (val (l.take (i + 1))), p + ((i + 1 : Nat) : Int), 0) := by
  have hf10 : fin (l.take 10) = i + 1 := by
    have : l.take 10 = l.take i ++ l[i] :: ((l.drop (i + 1)).take (9 - i)) := by
      rw [show (10 : Nat) = i + (1 + (9 - i)) by omega, List.take_add, List.drop_eq_getElem_cons hlt, Nat.add_comm 1 (9 - i), List.take_succ_cons]
    rw [this, fin_app1 _ hsm _ _ hf, List.length_take, Nat.min_eq_left (by omega)]
  have hgd : l.getD i 0 = l[i] := by rw [List.getD_eq_getElem?_getD, List.getElem?_eq_getElem hlt]; rfl
  unfold getS
  rw [hf10, if_neg (by omega), Nat.add_sub_cancel, hgd]
  generalize l[i] = b at *
  by_cases c : (i = 9 ∧ 1 < b) ∨ (0 < i ∧ b = 0)
  · rw [if_pos c, if_pos]
    rcases c with ⟨a, d⟩ | ⟨a, d⟩
    · left; subst a; rw [hgd]; exact ⟨rfl, d⟩
    · right; exact ⟨by omega, d⟩
  · rw [if_neg c, if_neg]
    rintro (⟨a, d⟩ | ⟨a, d⟩)
    · have h : i = 9 := by omega
      subst h; rw [hgd] at d; exact c (Or.inl ⟨rfl, d⟩)
    · exact c (Or.inr ⟨by omega, d⟩)
theorem val_small (l : List Nat) (i : Nat) (hlt : i < l.length) (h9 : i < 10) (hsm : l[i] < 128) (h : i < 9 ∨ l[i] ≤ 1) :
    val (l.take (i + 1)) = val (l.take i) + 128 ^ i * l[i] ∧ val (l.take i) + 128 ^ i * l[i] < 18446744073709551616 := by
  have hvl := val_lt (l.take i)
  rw [List.length_take, Nat.min_eq_left (by omega)] at hvl
  constructor
  · rw [List.take_succ_eq_append_getElem hlt, val_app, List.length_take, Nat.min_eq_left (by omega)]; simp only [val, Nat.mul_zero, Nat.add_zero]; rw [Nat.mod_eq_of_lt hsm]
  · generalize l[i] = b at *
    rcases h with h | h
    · have h1 : (128 : Nat) ^ i ≤ 128 ^ 8 := Nat.pow_le_pow_right (by decide) (by omega)
      have h2 : 128 ^ i * b ≤ 128 ^ 8 * 127 := Nat.mul_le_mul h1 (by omega)
      have e8 : (128 : Nat) ^ 8 = 72057594037927936 := by decide
      omega
    · have h1 : (128 : Nat) ^ i ≤ 128 ^ 9 := Nat.pow_le_pow_right (by decide) (by omega)
      have h2 : 128 ^ i * b ≤ 128 ^ 9 * 1 := Nat.mul_le_mul h1 h
      have e9 : (128 : Nat) ^ 9 = 9223372036854775808 := by decide
      omega
theorem w_add2 (p i : Nat) (hp : p ≤ 4611686018427387904) (hi : i ≤ 10) : wrap64 ((p : Int) + (i : Int)) = ((p + i : Nat) : Int) ∧ wrap64 (7 * (i : Int)) = ((7 * i : Nat) : Int) ∧ IntKind.u64.wrap ((7 * i : Nat) : Int) = ((7 * i : Nat) : Int) ∧ wrap64 ((i : Int) + 1) = ((i + 1 : Nat) : Int) := by
  refine ⟨?_, ?_, wrap_u64_id (by omega) (by omega), ?_⟩
  · rw [wrap64_id (by omega) (by omega)]; omega
  · rw [wrap64_id (by omega) (by omega)]; omega
  · rw [wrap64_id (by omega) (by omega)]; omega
theorem rget_l0 (s : ByteArray) (p : Nat) (hp : p ≤ s.size) (hs : s.size ≤ 4611686018427387904) (l : List Nat) (hl : l = (L s).drop p) (d : Nat) :
    ∀ (i : Nat) (u : Int) (k : Nat), 10 - i = d → i ≤ 10 → i ≤ l.length → d + 1 < k → fin (l.take i) = 0 → (i < 10 → u = ((val (l.take i) : Nat) : Int)) → bourneref1_GetNum.l0 k s (p : Int) u (i : Int) = some (getS l (p : Int)) := by
  have hlen := L_len s
  have hll : l.length = s.size - p := by rw [hl, List.length_drop, hlen]
  have hbb : ∀ x ∈ l, x < 256 := fun x hx => L_lt s x (List.mem_of_mem_drop (hl ▸ hx))
  induction d with
  | zero =>
    intro i u k hd hi hil hk hf hu
    obtain ⟨k, rfl⟩ : ∃ m, k = m + 1 := ⟨k - 1, by omega⟩
    obtain rfl : i = 10 := by omega
    simp only [bourneref1_GetNum.l0]
    rw [if_neg (by decide)]
    unfold getS
    rw [if_pos hf, if_neg (by omega)]
  | succ d ih =>
    intro i u k hd hi hil hk hf hu
    obtain ⟨k, rfl⟩ : ∃ m, k = m + 2 := ⟨k - 2, by omega⟩
    have hi10 : i < 10 := by omega
    have hi9 : i ≤ 9 := by omega
    have hu := hu hi10
    subst hu
    have q1 : ((i : Nat) : Int) < 10 := by omega
    have q2 : 0 ≤ ((p + i : Nat) : Int) := by omega
    have q3 : 0 ≤ ((7 * i : Nat) : Int) := by omega
    have q4 : 10 - (i + 1) = d := by omega
    have q5 : d + 1 < k + 1 := by omega
    have q6 : p ≤ 4611686018427387904 := by omega
    simp only [bourneref1_GetNum.l0]
    rw [if_pos q1, (w_add2 p i q6 hi).1]
    by_cases hend : l.length ≤ i
    · have q7 : ((p + i : Nat) : Int) ≥ (s.size : Int) := by omega
      rw [if_pos q7]
      unfold getS
      have ht : l.take 10 = l.take i := by rw [List.take_of_length_le (by omega), List.take_of_length_le (by omega)]
      rw [ht, if_pos hf, if_pos (by omega)]
    · have hlt : i < l.length := by omega
      have q7 : ¬ ((p + i : Nat) : Int) ≥ (s.size : Int) := by omega
      have q8 : ((p + i : Nat) : Int) < (s.size : Int) := by omega
      have q9 : p + i < (L s).length := by omega
      have q10 : i + 1 ≤ l.length := by omega
      have hb : bt s ((p + i : Nat) : Int) = ((l[i] : Nat) : Int) := by
        rw [bt_L, Int.toNat_natCast]
        subst hl
        rw [List.getElem_drop, List.getD_eq_getElem?_getD, List.getElem?_eq_getElem q9]; rfl
      have hb2 : l[i] < 256 := hbb _ (List.getElem_mem hlt)
      have hm1 : ((l[i] % 128 : Nat) : Int) < 18446744073709551616 := by omega
      rw [if_neg q7, if_pos q2, if_pos q8, (w_add2 p i q6 hi).2.1, (w_add2 p i q6 hi).2.2.1, (w_add2 p i q6 hi).2.2.2, if_pos q3, hb, u8and _ hb2, wrap_u64_id (n := ((l[i] % 128 : Nat) : Int)) (by omega) hm1]
      clear hb q1 q2 q3 q7 q8 q9
      by_cases hsm : l[i] < 128
      · have hmod : l[i] % 128 = l[i] := Nat.mod_eq_of_lt hsm
        have hgs := getS_small l (p : Int) i hlt hi10 hf hsm
        have c1 : ((l[i] : Nat) : Int) < 128 := by omega
        rw [if_pos c1, hmod, hgs]
        have hok : (i < 9 ∨ l[i] ≤ 1) → bourneref1_GetNum.j2 (k + 1) (p : Int) (Go.bits .or .u64 ((val (l.take i) : Nat) : Int) (shl .u64 ((l[i] : Nat) : Int) ((7 * i : Nat) : Int))) (i : Int) false = some (unzig (val (l.take (i + 1))), (p : Int) + ((i + 1 : Nat) : Int), 0) := by
          intro h9
          obtain ⟨v1, v2⟩ := val_small l i hlt hi10 hsm h9
          simp only [bourneref1_GetNum.j2]
          rw [if_neg (by decide), ror_sh l i _ hil hi9 hsm h9, v1]
          exact rfin _ p i v2 q6 hi
        have hbad : ∀ u : Int, bourneref1_GetNum.j2 (k + 1) (p : Int) u (i : Int) true = some (0, 0, 700) := by
          intro u; simp only [bourneref1_GetNum.j2, if_true]
        generalize l[i] = b at *
        by_cases z : b = 0
        · have z' : ((b : Nat) : Int) = 0 := by omega
          rw [if_pos z']
          by_cases zi : 0 < i
          · have zi' : ((i : Nat) : Int) > 0 := by omega
            rw [if_pos zi', hbad, if_pos (Or.inr ⟨zi, z⟩)]
          · have zi' : ¬ ((i : Nat) : Int) > 0 := by omega
            have z9 : ¬ ((i : Nat) : Int) = 9 := by omega
            rw [if_neg zi', if_neg z9, hok (by omega), if_neg (by omega)]
        · have z' : ¬ ((b : Nat) : Int) = 0 := by omega
          rw [if_neg z']
          by_cases h9 : i = 9
          · have h9' : ((i : Nat) : Int) = 9 := by omega
            rw [if_pos h9']
            by_cases o : 1 < b
            · have o' : ((b : Nat) : Int) > 1 := by omega
              rw [decide_eq_true o', hbad, if_pos (Or.inl ⟨h9, o⟩)]
            · have o' : ¬ ((b : Nat) : Int) > 1 := by omega
              rw [decide_eq_false o', hok (by omega), if_neg (by omega)]
          · have h9' : ¬ ((i : Nat) : Int) = 9 := by omega
            rw [if_neg h9', hok (by omega), if_neg (by omega)]
      · have c1 : ¬ ((l[i] : Nat) : Int) < 128 := by omega
        rw [if_neg c1]
        refine ih (i + 1) _ (k + 1) q4 hi10 q10 q5 (by rw [List.take_succ_eq_append_getElem hlt]; exact fin_app0 _ hsm _ hf) ?_
        intro h10
        have c2 : l[i] % 128 < 128 := Nat.mod_lt _ (by decide)
        have c3 : i < 9 ∨ l[i] % 128 ≤ 1 := Or.inl (by omega)
        rw [ror_sh l i _ hil hi9 c2 c3, List.take_succ_eq_append_getElem hlt, val_app, List.length_take, Nat.min_eq_left hil]
        simp [val]
theorem rget_ev (s : ByteArray) (p : Nat) (hp : p ≤ s.size) (hs : s.size ≤ 4611686018427387904) : ∀ k, 20 ≤ k → bourneref1_GetNum.f k s (p : Int) = some (getS ((L s).drop p) (p : Int)) := by
  intro k hk
  obtain ⟨k, rfl⟩ : ∃ m, k = m + 1 := ⟨k - 1, by omega⟩
  unfold bourneref1_GetNum.f
  rw [if_neg (by omega), decide_eq_false (by omega)]
  simp only [bourneref1_GetNum.j0]
  rw [if_neg (by decide)]
  exact rget_l0 s p hp hs _ rfl 10 0 0 k (by omega) (by omega) (by omega) (by omega) (by simp [fin]) (by intro _; simp [val])
theorem rget_form (s : ByteArray) (p : Int) (h : p < 0 ∨ (s.size : Int) < p) : ∀ k, 1 ≤ k → bourneref1_GetNum.f k s p = some (0, 0, 700) := by
  intro k hk
  obtain ⟨k, rfl⟩ : ∃ m, k = m + 1 := ⟨k - 1, by omega⟩
  unfold bourneref1_GetNum.f
  by_cases c : p < 0
  · rw [if_pos c]; simp [bourneref1_GetNum.j0]
  · rw [if_neg c, decide_eq_true (by omega)]; simp [bourneref1_GetNum.j0]
theorem rnum_ev (s : ByteArray) (hs : s.size ≤ 4611686018427387904) (p : Int) (b : Bool) (h0 : 0 ≤ p) (h1 : p ≤ s.size) (k : Nat) (hk : 20 ≤ k) :
    bourneref1_Reader_Num.f k s p b = some ((numM (L s) p b).1, s, (numM (L s) p b).2.1, (numM (L s) p b).2.2) := by
  unfold bourneref1_Reader_Num.f numM
  have h := rget_ev s p.toNat (by omega) hs k hk
  rw [Int.toNat_of_nonneg h0] at h
  rw [h, Option.bind_some]
  cases b with
  | true => rfl
  | false =>
    simp only [Bool.false_eq_true, reduceIte]
    by_cases c : (getS ((L s).drop p.toNat) p).2.2 = 0
    · simp only [if_pos c]
    · simp only [if_neg c]
theorem rwithin (t m : Int) (hm : 0 ≤ m) (hm2 : m ≤ 4611686018427387904) : bourneref1_within.f t m = some (decide (-m ≤ t ∧ t ≤ m)) := by
  unfold bourneref1_within.f
  rw [wrap64_id (n := -m) (by omega) (by omega)]
  by_cases c : t ≥ -m
  · rw [if_pos c]; exact congrArg some (decide_eq_decide.2 (by omega))
  · rw [if_neg c, decide_eq_false (by omega)]
theorem bool_of {b : Bool} {p : Prop} [Decidable p] (h : b = true ↔ p) : b = decide p := by
  cases b with
  | true => exact (decide_eq_true (h.1 rfl)).symm
  | false => exact (decide_eq_false (fun q => by cases h.2 q)).symm
theorem rno_eq (q s st en v : Int) (ov : Bool) (l : List Int) : bourneref1_noResult.f q s st en v ov l = some (noneB q s st en v ov l) := by
  have hn : noneB q s st en v ov l = decide (q = 0 ∧ s = 0 ∧ st = 0 ∧ en = 0 ∧ v = 0 ∧ ov = false ∧ l = []) := bool_of none_iff
  rw [hn]
  unfold bourneref1_noResult.f
  by_cases c1 : q = 0
  · rw [if_pos c1]
    by_cases c2 : s = 0
    · rw [if_pos c2]
      by_cases c3 : (st == 0 && (en == 0)) = true
      · rw [if_pos c3]
        simp only [Bool.and_eq_true, beq_iff_eq] at c3
        by_cases c4 : v = 0
        · rw [if_pos c4]
          cases ov with
          | true => rw [if_pos rfl]; exact congrArg some (decide_eq_false (by simp)).symm
          | false =>
            rw [if_neg (by decide)]
            refine congrArg some (bool_of ?_)
            rw [beq_iff_eq]
            constructor
            · intro h; exact ⟨c1, c2, c3.1, c3.2, c4, rfl, List.eq_nil_of_length_eq_zero (by omega)⟩
            · rintro ⟨_, _, _, _, _, _, rfl⟩; rfl
        · rw [if_neg c4]; exact congrArg some (decide_eq_false (fun h => c4 h.2.2.2.2.1)).symm
      · rw [if_neg c3]; exact congrArg some (decide_eq_false (fun h => c3 (by simp [h.2.2.1, h.2.2.2.1]))).symm
    · rw [if_neg c2]; exact congrArg some (decide_eq_false (fun h => c2 h.2.1)).symm
  · rw [if_neg c1]; exact congrArg some (decide_eq_false (fun h => c1 h.1)).symm
theorem ritem_eq (a b c : Int) : bourneref1_ItemMay.f a b c 0 = some (refB a b c) := by
  have hn : refB a b c = decide (0 ≤ a ∧ a ≤ 1048575 ∧ -1099511627776 ≤ b ∧ b ≤ 1099511627776 ∧ 1 ≤ c ∧ c ≤ 1073741823) := bool_of ref_iff
  rw [hn]
  unfold bourneref1_ItemMay.f
  rw [rwithin b _ (by omega) (by omega), rwithin 0 _ (by omega) (by omega)]
  simp only [Option.bind_some]
  by_cases c1 : a ≥ 0
  · rw [if_pos c1]
    by_cases c2 : a ≤ 1048575
    · rw [if_pos c2]
      by_cases c3 : -1099511627776 ≤ b ∧ b ≤ 1099511627776
      · rw [if_pos (decide_eq_true c3)]
        by_cases c4 : c ≥ 1
        · rw [if_pos c4]
          by_cases c5 : c ≤ 1073741823
          · rw [if_pos c5]; exact congrArg some ((decide_eq_true (by omega)).trans (decide_eq_true (by omega)).symm)
          · rw [if_neg c5]; exact congrArg some (decide_eq_false (by omega)).symm
        · rw [if_neg c4]; exact congrArg some (decide_eq_false (by omega)).symm
      · rw [if_neg (by simpa using c3)]; exact congrArg some (decide_eq_false (by omega)).symm
    · rw [if_neg c2]; exact congrArg some (decide_eq_false (by omega)).symm
  · rw [if_neg c1]; exact congrArg some (decide_eq_false (by omega)).symm
theorem rres_l0 (l : List Int) (hl : l.length ≤ 9) (q s st en v : Int) (ov : Bool) (d : Nat) : ∀ (i k : Nat), l.length - i = d → i ≤ l.length → d < k → bourneref1_resultMay.l0 k (i : Int) q s st en v ov l = some ((l.drop i).all hB) := by
  induction d with
  | zero =>
    intro i k hd hi hk
    obtain ⟨k, rfl⟩ : ∃ m, k = m + 1 := ⟨k - 1, by omega⟩
    simp only [bourneref1_resultMay.l0]
    rw [if_neg (by omega), List.drop_eq_nil_of_le (by omega)]; rfl
  | succ d ih =>
    intro i k hd hi hk
    obtain ⟨k, rfl⟩ : ∃ m, k = m + 1 := ⟨k - 1, by omega⟩
    have hlt : i < l.length := by omega
    have e : rd l (i : Int) = l[i] := by
      unfold rd; rw [Int.toNat_natCast, List.getD_eq_getElem?_getD, List.getElem?_eq_getElem hlt]; rfl
    have hw : wrap64 ((i : Int) + 1) = ((i + 1 : Nat) : Int) := by rw [wrap64_id (by omega) (by omega)]; omega
    simp only [bourneref1_resultMay.l0]
    rw [if_pos (by omega), if_pos (by omega), e, hw, List.drop_eq_getElem_cons hlt, List.all_cons]
    have hh : hB l[i] = decide (0 ≤ l[i] ∧ l[i] ≤ 8192) := bool_of hB_iff
    rw [hh]
    by_cases c1 : l[i] < 0
    · rw [if_pos c1, decide_eq_false (by omega), Bool.false_and]
    · rw [if_neg c1]
      by_cases c2 : l[i] > 8192
      · rw [if_pos c2, decide_eq_false (by omega), Bool.false_and]
      · rw [if_neg c2, decide_eq_true (by omega), Bool.true_and]
        exact ih (i + 1) k (by omega) (by omega) (by omega)
theorem rres_j0 (b : Bool) (q s st en v : Int) (ov : Bool) (l : List Int) (hb : b = false → l.length ≤ 9) (k : Nat) (hk : 12 ≤ k) : bourneref1_resultMay.j0 k b q s st en v ov l = some (!b && l.all hB) := by
  obtain ⟨k, rfl⟩ : ∃ m, k = m + 1 := ⟨k - 1, by omega⟩
  simp only [bourneref1_resultMay.j0]
  cases b with
  | true => rw [if_pos rfl]; rfl
  | false =>
    rw [if_neg (by decide)]
    have hl := hb rfl
    have := rres_l0 l hl q s st en v ov l.length 0 k (by omega) (by omega) (by omega)
    rw [List.drop_zero] at this
    exact this
theorem rres_eq (q s st en v : Int) (ov : Bool) (l : List Int) (k : Nat) (hk : 12 ≤ k) : bourneref1_resultMay.f k q s st en v ov l = some (resB q s st en v ov l) := by
  have hn : resB q s st en v ov l = decide (0 ≤ q ∧ q < 8 ∧ 0 ≤ s ∧ s ≤ 1048575 ∧ -4398046511104 ≤ st ∧ en ≤ 4398046511104 ∧ st < en ∧ -72057594037927940 ≤ v ∧ v ≤ 72057594037927940 ∧ (ov = false ∨ v = 0) ∧ l.length ≤ 9 ∧ ∀ x ∈ l, 0 ≤ x ∧ x ≤ 8192) := bool_of res_iff
  rw [hn]
  have T := rres_j0 true q s st en v ov l (by intro h; cases h) k hk
  have D : ∀ b : Bool, b = decide ((l.length : Int) > 9) → bourneref1_resultMay.j0 k b q s st en v ov l = some (!b && l.all hB) := fun b hb => rres_j0 b q s st en v ov l (fun h => by rw [h] at hb; have := of_decide_eq_false hb.symm; omega) k hk
  have DD := D _ rfl
  unfold bourneref1_resultMay.f
  rw [rwithin v _ (by omega) (by omega), T, DD]
  simp only [Option.bind_some, Bool.not_true, Bool.false_and]
  have fin : ∀ h : ¬ (0 ≤ q ∧ q < 8 ∧ 0 ≤ s ∧ s ≤ 1048575 ∧ -4398046511104 ≤ st ∧ en ≤ 4398046511104 ∧ st < en ∧ -72057594037927940 ≤ v ∧ v ≤ 72057594037927940 ∧ (ov = false ∨ v = 0)), some false = some (decide (0 ≤ q ∧ q < 8 ∧ 0 ≤ s ∧ s ≤ 1048575 ∧ -4398046511104 ≤ st ∧ en ≤ 4398046511104 ∧ st < en ∧ -72057594037927940 ≤ v ∧ v ≤ 72057594037927940 ∧ (ov = false ∨ v = 0) ∧ l.length ≤ 9 ∧ ∀ x ∈ l, 0 ≤ x ∧ x ≤ 8192)) := fun h => congrArg some (decide_eq_false (fun g => h ⟨g.1, g.2.1, g.2.2.1, g.2.2.2.1, g.2.2.2.2.1, g.2.2.2.2.2.1, g.2.2.2.2.2.2.1, g.2.2.2.2.2.2.2.1, g.2.2.2.2.2.2.2.2.1, g.2.2.2.2.2.2.2.2.2.1⟩)).symm
  by_cases c1 : q < 0
  · rw [if_pos c1]; exact fin (by omega)
  rw [if_neg c1]
  by_cases c2 : q ≥ 8
  · rw [if_pos c2]; exact fin (by omega)
  rw [if_neg c2]
  by_cases c3 : s < 0
  · rw [if_pos c3]; exact fin (by omega)
  rw [if_neg c3]
  by_cases c4 : s > 1048575
  · rw [if_pos c4]; exact fin (by omega)
  rw [if_neg c4]
  by_cases c5 : st ≥ en
  · rw [if_pos c5]; exact fin (by omega)
  rw [if_neg c5]
  by_cases c6 : st < -4398046511104
  · rw [if_pos c6]; exact fin (by omega)
  rw [if_neg c6]
  by_cases c7 : en > 4398046511104
  · rw [if_pos c7]; exact fin (by omega)
  rw [if_neg c7]
  by_cases c8 : -72057594037927940 ≤ v ∧ v ≤ 72057594037927940
  · rw [if_pos (decide_eq_true c8)]
    have last : (ov = false ∨ v = 0) → some (!(decide ((l.length : Int) > 9)) && l.all hB) = some (decide (0 ≤ q ∧ q < 8 ∧ 0 ≤ s ∧ s ≤ 1048575 ∧ -4398046511104 ≤ st ∧ en ≤ 4398046511104 ∧ st < en ∧ -72057594037927940 ≤ v ∧ v ≤ 72057594037927940 ∧ (ov = false ∨ v = 0) ∧ l.length ≤ 9 ∧ ∀ x ∈ l, 0 ≤ x ∧ x ≤ 8192)) := fun hv => by
      refine congrArg some (bool_of ?_)
      simp only [Bool.and_eq_true, Bool.not_eq_true', decide_eq_false_iff_not, List.all_eq_true, hB_iff]
      constructor
      · rintro ⟨g1, g2⟩; exact ⟨by omega, by omega, by omega, by omega, by omega, by omega, by omega, c8.1, c8.2, hv, by omega, g2⟩
      · intro g; exact ⟨by omega, g.2.2.2.2.2.2.2.2.2.2.2⟩
    cases ov with
    | true =>
      rw [if_pos rfl]
      by_cases c9 : v = 0
      · rw [if_pos c9]; exact last (.inr c9)
      · rw [if_neg c9]; exact fin (by simp [c9])
    | false => rw [if_neg (by decide)]; exact last (.inl rfl)
  · rw [if_neg (by simpa using c8)]; exact fin (by omega)
theorem rrec_eq (k q s st en v : Int) (ov : Bool) (l : List Int) (se ti sq by_ : Int) (K : Nat) (hK : 20 ≤ K) : bourneref1_RecMay.f K k q s st en v ov l se ti sq by_ = some (recB k q s st en v ov l se ti sq by_) := by
  obtain ⟨K, rfl⟩ : ∃ m, K = m + 2 := ⟨K - 2, by omega⟩
  have hj : ∀ b : Bool, bourneref1_RecMay.j0 (K + 2) b k q s st en v ov l se ti sq by_ = some (if k = 0 then (b && ((by_ == 0) && resB q s st en v ov l)) else if k = 1 ∨ k = 2 ∨ k = 3 then noneB q s st en v ov l && ((by_ == 0) && refB se ti sq) else if k = 4 then b && ((by_ == 0) && noneB q s st en v ov l) else if k = 5 then b && (noneB q s st en v ov l && (decide (1 ≤ by_) && decide (by_ ≤ 1073741823))) else false) := by
    intro b
    simp only [bourneref1_RecMay.j0, bourneref1_RecMay.j1, rno_eq, ritem_eq, rres_eq q s st en v ov l (K + 1) (by omega), Option.bind_some]
    generalize resB q s st en v ov l = x
    generalize noneB q s st en v ov l = y
    generalize refB se ti sq = z
    have hy : ∀ t : Int, (by_ == t) = decide (by_ = t) := fun t => bool_of beq_iff_eq
    by_cases k0 : k = 0
    · simp only [if_pos k0, hy]; cases b <;> by_cases hb : by_ = 0 <;> first | (simp [hb]; done) | rfl | (simp; done)
    · by_cases k1 : k = 1
      · subst k1; simp [hy]; cases y <;> by_cases hb : by_ = 0 <;> first | (simp [hb]; done) | rfl | (simp; done)
      · by_cases k2 : k = 2
        · subst k2; simp [hy]; cases y <;> by_cases hb : by_ = 0 <;> first | (simp [hb]; done) | rfl | (simp; done)
        · by_cases k3 : k = 3
          · subst k3; simp [hy]; cases y <;> by_cases hb : by_ = 0 <;> first | (simp [hb]; done) | rfl | (simp; done)
          · have h3 : (k == 3) = false := beq_eq_false_iff_ne.2 k3
            simp only [if_neg k0, if_neg k1, if_neg k2, h3, k1, k2, k3, or_self, Bool.false_eq_true, reduceIte]
            by_cases k4 : k = 4
            · simp only [if_pos k4, hy]; cases b <;> by_cases hb : by_ = 0 <;> first | (simp [hb]; done) | rfl | (simp; done)
            · simp only [if_neg k4]
              by_cases k5 : k = 5
              · simp only [if_pos k5]; cases b <;> cases y <;> by_cases hb : 1 ≤ by_ <;> first | (simp [hb]; done) | rfl | (simp; done)
              · simp only [if_neg k5]
  have he : bourneref1_RecMay.f (K + 2) k q s st en v ov l se ti sq by_ = bourneref1_RecMay.j0 (K + 2) (bareB se ti sq) k q s st en v ov l se ti sq by_ := by
    unfold bourneref1_RecMay.f bareB
    by_cases c1 : se = 0
    · rw [if_pos c1]
      by_cases c2 : ti = 0
      · rw [if_pos c2, beq_iff_eq.2 c1, beq_iff_eq.2 c2, Bool.true_and, Bool.true_and]
      · rw [if_neg c2, beq_eq_false_iff_ne.2 c2, Bool.false_and, Bool.and_false]
    · rw [if_neg c1, beq_eq_false_iff_ne.2 c1, Bool.false_and]
  rw [he, hj]
  unfold recB
  generalize resB q s st en v ov l = x
  generalize noneB q s st en v ov l = y
  generalize refB se ti sq = z
  generalize bareB se ti sq = u
  congr 1
  by_cases k0 : k = 0
  · rw [if_pos k0, if_pos k0]; cases u <;> cases x <;> simp
  · rw [if_neg k0, if_neg k0]
    by_cases k1 : k = 1 ∨ k = 2 ∨ k = 3
    · rw [if_pos k1, if_pos k1]; cases y <;> cases z <;> simp
    · rw [if_neg k1, if_neg k1]
      by_cases k4 : k = 4
      · rw [if_pos k4, if_pos k4]; cases u <;> cases y <;> simp
      · rw [if_neg k4, if_neg k4]
        by_cases k5 : k = 5
        · rw [if_pos k5, if_pos k5]; cases u <;> cases y <;> simp
        · rw [if_neg k5, if_neg k5]
theorem rpl0 (l : List Int) (hr : ∀ x ∈ l, rng x) (hx : l.length ≤ 100) (k q s st en v : Int) (ov : Bool) (se ti sq by_ : Int) (d : Nat) : ∀ (i K : Nat) (acc : ByteArray), l.length - i = d → i ≤ l.length → d + 13 ≤ K → acc.size + 10 * d ≤ 4611686018427387904 →
    bourneref1_PutRec.l0 K acc (i : Int) k q s st en v ov l se ti sq by_ = some (S (L acc ++ RecPureR.encs (l.drop i)), 0) := by
  induction d with
  | zero =>
    intro i K acc hd hi hk ha
    obtain ⟨K, rfl⟩ : ∃ m, K = m + 1 := ⟨K - 1, by omega⟩
    simp only [bourneref1_PutRec.l0]
    rw [if_neg (by omega), List.drop_eq_nil_of_le (by omega), RecPureR.encs, List.append_nil, S_L9]
  | succ d ih =>
    intro i K acc hd hi hk ha
    obtain ⟨K, rfl⟩ : ∃ m, K = m + 1 := ⟨K - 1, by omega⟩
    simp only [bourneref1_PutRec.l0]
    have hlt : i < l.length := by omega
    have e : rd l (i : Int) = l[i] := by
      unfold rd; rw [Int.toNat_natCast, List.getD_eq_getElem?_getD, List.getElem?_eq_getElem hlt]; rfl
    have hx1 := hr l[i] (List.getElem_mem hlt)
    have hp := L_put hx1.1 hx1.2
    have hz : (S (enc (zig l[i]))).size ≤ 10 := by rw [← L_len, hp]; exact enc_len10 (zig_lt hx1.1 hx1.2)
    have hw : wrap64 ((i : Int) + 1) = ((i + 1 : Nat) : Int) := by rw [wrap64_id (by omega) (by omega)]; omega
    rw [if_pos (by omega), if_pos (by omega), e, rput_ev hx1.1 hx1.2 K (by omega), Option.bind_some, if_pos (by omega), hw,
      ih (i + 1) K _ (by omega) (by omega) (by omega) (by rw [ByteArray.size_append]; omega), L_append, hp, List.drop_eq_getElem_cons hlt, RecPureR.encs, List.append_assoc]
theorem rput10_no {r : RV} (h : r.ok = false) (K : Nat) (hK : 20 ≤ K) : bourneref1_PutRec.f K r.k r.q r.s r.st r.en r.v r.ov r.l r.se r.ti r.sq r.by_ = some ((⟨#[]⟩ : ByteArray), 1000) := by
  unfold bourneref1_PutRec.f
  rw [rrec_eq _ _ _ _ _ _ _ _ _ _ _ _ K hK, Option.bind_some, if_neg (fun e => by rw [show r.ok = true from e] at h; cases h)]
theorem rput10 {r : RV} (h : r.ok = true) (K : Nat) (hK : 40 ≤ K) : bourneref1_PutRec.f K r.k r.q r.s r.st r.en r.v r.ov r.l r.se r.ti r.sq r.by_ = some (S (renc r), 0) := by
  have hr := ok_rng h
  have c := ok_cases h
  have h' : recB r.k r.q r.s r.st r.en r.v r.ov r.l r.se r.ti r.sq r.by_ = true := h
  have E : ∀ l : List Int, (∀ x ∈ l, rng x) → ∀ y ∈ RecPureR.encs l, y < 256 := fun l hl => encs_lt l hl
  have ol : renc r = RecPureR.encs ((rhead r) ++ (rtl r)) := rfl
  unfold rlist at hr
  unfold rhead rtl at hr ol
  have PZ : ∀ x : Int, rng x → (S (enc (zig x))).size ≤ 10 := fun x hx => by rw [← L_len, L_put hx.1 hx.2]; exact enc_len10 (zig_lt hx.1 hx.2)
  unfold bourneref1_PutRec.f
  rw [rrec_eq _ _ _ _ _ _ _ _ _ _ _ _ K (by omega), h', Option.bind_some, if_pos rfl]
  obtain ⟨K, rfl⟩ : ∃ m, K = m + 2 := ⟨K - 2, by omega⟩
  rcases c with c | c | c | c
  · rw [if_pos c.1, if_pos c.1] at hr ol
    have m0 := hr r.k (by simp)
    have m1 := hr r.q (by simp)
    have m2 := hr r.s (by simp)
    have m3 := hr r.st (by simp)
    have m4 := hr r.en (by simp)
    have m5 := hr r.v (by simp)
    have m6 := hr (ovN r.ov) (by simp)
    have m7 := hr (r.l.length : Int) (by simp)
    have hl : ∀ x ∈ r.l, rng x := fun x hx => hr x (by simp [hx])
    have z0 := PZ _ m0
    have z1 := PZ _ m1
    have z2 := PZ _ m2
    have z3 := PZ _ m3
    have z4 := PZ _ m4
    have z5 := PZ _ m5
    have z6 := PZ _ m6
    have z7 := PZ _ m7
    have J : ∀ o : Int, o = ovN r.ov → bourneref1_PutRec.j0 (K + 2) (S (enc (zig r.k))) o r.k r.q r.s r.st r.en r.v r.ov r.l r.se r.ti r.sq r.by_ = some (S (renc r), 0) := by
      intro o ho
      subst ho
      simp only [bourneref1_PutRec.j0]
      rw [rput_ev m1.1 m1.2 _ (by omega), Option.bind_some, if_pos (by omega), rput_ev m2.1 m2.2 _ (by omega), Option.bind_some, if_pos (by simp only [ByteArray.size_append]; omega),
        rput_ev m3.1 m3.2 _ (by omega), Option.bind_some, if_pos (by simp only [ByteArray.size_append]; omega), rput_ev m4.1 m4.2 _ (by omega), Option.bind_some, if_pos (by simp only [ByteArray.size_append]; omega),
        rput_ev m5.1 m5.2 _ (by omega), Option.bind_some, if_pos (by simp only [ByteArray.size_append]; omega), rput_ev m6.1 m6.2 _ (by omega), Option.bind_some, if_pos (by simp only [ByteArray.size_append]; omega),
        rput_ev m7.1 m7.2 _ (by omega), Option.bind_some, if_pos (by simp only [ByteArray.size_append]; omega)]
      have := rpl0 r.l hl (by omega) r.k r.q r.s r.st r.en r.v r.ov r.se r.ti r.sq r.by_ r.l.length 0 (K + 1) (S (enc (zig r.k)) ++ S (enc (zig r.q)) ++ S (enc (zig r.s)) ++ S (enc (zig r.st)) ++ S (enc (zig r.en)) ++ S (enc (zig r.v)) ++ S (enc (zig (ovN r.ov))) ++ S (enc (zig (r.l.length : Int)))) (by omega) (by omega) (by omega) (by simp only [ByteArray.size_append]; omega)
      rw [show ((0 : Nat) : Int) = 0 from rfl, List.drop_zero] at this
      rw [this]
      simp only [L_append, L_put m0.1 m0.2, L_put m1.1 m1.2, L_put m2.1 m2.2, L_put m3.1 m3.2, L_put m4.1 m4.2, L_put m5.1 m5.2, L_put m6.1 m6.2, L_put m7.1 m7.2]
      rw [ol, encs_app]
      simp only [RecPureR.encs, List.append_assoc, List.append_nil]
    rw [rput_ev m0.1 m0.2 _ (by omega), Option.bind_some, if_pos c.1]
    cases ho : r.ov with
    | true => rw [ho] at J; rw [if_pos rfl]; exact J 1 rfl
    | false => rw [ho] at J; rw [if_neg (by decide)]; exact J 0 rfl
  · rw [if_neg (by omega), if_pos c.1, if_neg (by omega)] at hr ol
    have m0 := hr r.k (by simp)
    have m1 := hr r.se (by simp)
    have m2 := hr r.ti (by simp)
    have m3 := hr r.sq (by simp)
    have z0 := PZ _ m0
    have z1 := PZ _ m1
    have z2 := PZ _ m2
    have z3 := PZ _ m3
    have J : ∀ (o : Int) (b : Bool), b = true → bourneref1_PutRec.j2 (K + 2) (S (enc (zig r.k))) o b r.k r.q r.s r.st r.en r.v r.ov r.l r.se r.ti r.sq r.by_ = some (S (renc r), 0) := by
      intro o b hb
      subst hb
      simp only [bourneref1_PutRec.j2]
      rw [if_pos trivial, rput_ev m1.1 m1.2 _ (by omega), Option.bind_some, if_pos (by omega), rput_ev m2.1 m2.2 _ (by omega), Option.bind_some, if_pos (by simp only [ByteArray.size_append]; omega),
        rput_ev m3.1 m3.2 _ (by omega), Option.bind_some, if_pos (by simp only [ByteArray.size_append]; omega)]
      refine congrArg some (Prod.ext ?_ rfl)
      apply L_inj
      rw [L_renc h, ol]
      simp only [L_append, L_put m0.1 m0.2, L_put m1.1 m1.2, L_put m2.1 m2.2, L_put m3.1 m3.2, RecPureR.encs, List.append_assoc, List.append_nil]
    rw [rput_ev m0.1 m0.2 _ (by omega), Option.bind_some, if_neg (by omega)]
    by_cases k1 : r.k = 1
    · rw [if_pos k1]; exact J _ _ (beq_iff_eq.2 k1)
    · rw [if_neg k1]
      by_cases k2 : r.k = 2
      · rw [if_pos k2]; exact J _ _ (beq_iff_eq.2 k2)
      · rw [if_neg k2]; exact J _ _ (beq_iff_eq.2 (by omega))
  · rw [if_neg (by omega), if_neg (by omega), if_neg (by omega), if_neg (by omega)] at hr ol
    have m0 := hr r.k (by simp)
    rw [rput_ev m0.1 m0.2 _ (by omega), Option.bind_some, if_neg (by omega), if_neg (by omega), if_neg (by omega)]
    simp only [bourneref1_PutRec.j2]
    rw [if_neg (by simp; omega), if_neg (by omega), ol]
    simp only [RecPureR.encs, List.append_nil]
  · rw [if_neg (by omega), if_neg (by omega), if_pos c.1, if_neg (by omega)] at hr ol
    have m0 := hr r.k (by simp)
    have m1 := hr r.by_ (by simp)
    have z0 := PZ _ m0
    have z1 := PZ _ m1
    rw [rput_ev m0.1 m0.2 _ (by omega), Option.bind_some, if_neg (by omega), if_neg (by omega), if_neg (by omega)]
    simp only [bourneref1_PutRec.j2]
    rw [if_neg (by simp; omega), if_pos c.1, rput_ev m1.1 m1.2 _ (by omega), Option.bind_some, if_pos (by omega)]
    refine congrArg some (Prod.ext ?_ rfl)
    apply L_inj
    rw [L_renc h, ol]
    simp only [L_append, L_put m0.1 m0.2, L_put m1.1 m1.2, RecPureR.encs, List.append_assoc, List.append_nil]
/-! the reader -/
theorem lp_ev (s : ByteArray) (hs : s.size ≤ 4611686018427387904) (K : Nat) (hK : 20 ≤ K) : ∀ (n : Nat) (p : Int) (b : Bool), 0 ≤ p → p ≤ s.size → lp K n s p b = some ((readN (L s) n p b).1, s, (readN (L s) n p b).2.1, (readN (L s) n p b).2.2)
  | 0, p, b, _, _ => rfl
  | n + 1, p, b, h0, h1 => by
    have hr := num_rng (L s) (L_lt s) p b h0 (by rw [L_len]; exact h1)
    rw [L_len] at hr
    simp only [lp]
    rw [rnum_ev s hs p b h0 h1 K hK, Option.bind_some]
    dsimp only
    rw [lp_ev s hs K hK n _ _ hr.1 hr.2, Option.bind_some]
    rfl
theorem fin_ev (K : Nat) (hK : 20 ≤ K) (s : ByteArray) (r : RV) (ov p : Int) (b : Bool) : gfin K s r ov p b = some (if b = false ∧ p = ((L s).length : Int) ∧ 0 ≤ ov ∧ ov ≤ 1 ∧ r.ok = true then (r, 0) else (RV.z, 1000)) := by
  have hlen := L_len s
  unfold gfin
  cases b with
  | true => rw [if_pos rfl, if_neg (fun h => by cases h.1)]
  | false =>
    rw [if_neg (by decide)]
    by_cases c : p = (s.size : Int)
    · rw [if_pos (beq_iff_eq.2 c)]
      by_cases v0 : ov < 0
      · rw [if_pos v0, if_neg (by omega)]
      · rw [if_neg v0]
        by_cases v1 : ov > 1
        · rw [if_pos v1, if_neg (by omega)]
        · rw [if_neg v1, rrec_eq _ _ _ _ _ _ _ _ _ _ _ _ K hK, Option.bind_some]
          by_cases m : r.ok = true
          · rw [if_pos (show recB r.k r.q r.s r.st r.en r.v r.ov r.l r.se r.ti r.sq r.by_ = true from m), if_pos ⟨rfl, by omega, by omega, by omega, m⟩]
          · rw [if_neg (show ¬ recB r.k r.q r.s r.st r.en r.v r.ov r.l r.se r.ti r.sq r.by_ = true from m), if_neg (fun h => m h.2.2.2.2)]
    · rw [if_neg (fun h => c (beq_iff_eq.1 h)), if_neg (by omega)]
theorem numM_zero {l : List Nat} {p : Int} {b : Bool} (h : (numM l p b).2.2 = true) : (numM l p b).1 = 0 := by
  unfold numM at h ⊢
  cases b with
  | true => rfl
  | false =>
    simp only [Bool.false_eq_true, reduceIte] at h ⊢
    by_cases c : (getS (l.drop p.toNat) p).2.2 = 0
    · simp only [if_pos c] at h; cases h
    · simp only [if_neg c]
theorem rget10 (s : ByteArray) (hs : s.size ≤ 4611686018427387904) (K : Nat) (hK : 20 ≤ K) : gf K s = some (getR (L s)) := by
  have hb := L_lt s
  have hlen := L_len s
  have N : ∀ (p : Int) (b : Bool), 0 ≤ p → p ≤ s.size → bourneref1_Reader_Num.f K s p b = some ((numM (L s) p b).1, s, (numM (L s) p b).2.1, (numM (L s) p b).2.2) := fun p b a1 a2 => rnum_ev s hs p b a1 a2 K hK
  have R : ∀ (p : Int) (b : Bool), 0 ≤ p → p ≤ s.size → 0 ≤ (numM (L s) p b).2.1 ∧ (numM (L s) p b).2.1 ≤ s.size := fun p b a1 a2 => by
    have := num_rng (L s) hb p b a1 (by omega); omega
  unfold gf aft getR rawR
  have r0 := R 0 false (by omega) (by omega)
  rw [N 0 false (by omega) (by omega), Option.bind_some]
  dsimp only
  generalize numM (L s) 0 false = t0 at *
  by_cases c : t0.1 = 0
  · rw [if_pos c]
    simp only [if_pos c]
    have r1 := R t0.2.1 t0.2.2 r0.1 r0.2
    rw [N _ _ r0.1 r0.2, Option.bind_some]
    dsimp only
    generalize numM (L s) t0.2.1 t0.2.2 = t1 at *
    have r2 := R t1.2.1 t1.2.2 r1.1 r1.2
    rw [N _ _ r1.1 r1.2, Option.bind_some]
    dsimp only
    generalize numM (L s) t1.2.1 t1.2.2 = t2 at *
    have r3 := R t2.2.1 t2.2.2 r2.1 r2.2
    rw [N _ _ r2.1 r2.2, Option.bind_some]
    dsimp only
    generalize numM (L s) t2.2.1 t2.2.2 = t3 at *
    have r4 := R t3.2.1 t3.2.2 r3.1 r3.2
    rw [N _ _ r3.1 r3.2, Option.bind_some]
    dsimp only
    generalize numM (L s) t3.2.1 t3.2.2 = t4 at *
    have r5 := R t4.2.1 t4.2.2 r4.1 r4.2
    rw [N _ _ r4.1 r4.2, Option.bind_some]
    dsimp only
    generalize numM (L s) t4.2.1 t4.2.2 = t5 at *
    have r6 := R t5.2.1 t5.2.2 r5.1 r5.2
    rw [N _ _ r5.1 r5.2, Option.bind_some]
    dsimp only
    generalize numM (L s) t5.2.1 t5.2.2 = t6 at *
    have r7 := R t6.2.1 t6.2.2 r6.1 r6.2
    rw [N _ _ r6.1 r6.2, Option.bind_some]
    dsimp only
    have LPZ : ∀ n : Nat, lp K n s (numM (L s) t6.2.1 t6.2.2).2.1 (numM (L s) t6.2.1 t6.2.2).2.2 = _ := fun n => lp_ev s hs K hK n _ _ r7.1 r7.2
    by_cases hbad : t6.2.2 = false ∧ 0 ≤ t6.1 ∧ t6.1 ≤ 1
    · have hfl : (t6.2.2 || (decide (t6.1 < 0) || decide (t6.1 > 1))) = false := by
        rw [hbad.1, decide_eq_false (by omega), decide_eq_false (by omega)]; rfl
      rw [hfl]
      rw [hbad.1] at LPZ ⊢
      unfold numsM
      have hz := numM_zero (l := L s) (p := t6.2.1) (b := false)
      generalize numM (L s) t6.2.1 false = t7 at *
      by_cases k0 : t7.1 < 0
      · rw [if_pos k0, if_pos (show t7.2.2 = true ∨ t7.1 < 0 ∨ 9 < t7.1 from .inr (.inl k0)), if_neg (fun h => by cases h.1)]
      · rw [if_neg k0]
        by_cases k9 : t7.1 > 9
        · rw [if_pos k9, if_pos (show t7.2.2 = true ∨ t7.1 < 0 ∨ 9 < t7.1 from .inr (.inr k9)), if_neg (fun h => by cases h.1)]
        · rw [if_neg k9, LPZ, Option.bind_some]
          dsimp only
          rw [fin_ev K hK]
          cases hq : t7.2.2 with
          | true =>
            have h0 := hz hq
            rw [if_pos (show true = true ∨ t7.1 < 0 ∨ 9 < t7.1 from .inl rfl), h0]
            rw [if_neg (fun h => by
              have h1 : (readN (L s) (0 : Int).toNat t7.2.1 true).2.2 = false := h.1
              cases h1), if_neg (fun h => by cases h.1)]
          | false =>
            rw [if_neg (show ¬ (false = true ∨ t7.1 < 0 ∨ 9 < t7.1) from fun z => by
              rcases z with z | z | z
              · cases z
              · exact k0 z
              · exact k9 z)]
            by_cases hh : (readN (L s) t7.1.toNat t7.2.1 false).2.2 = false ∧ (readN (L s) t7.1.toNat t7.2.1 false).2.1 = ((L s).length : Int) ∧ RV.ok ⟨0, t1.1, t2.1, t3.1, t4.1, t5.1, t6.1 == 1, (readN (L s) t7.1.toNat t7.2.1 false).1, 0, 0, 0, 0⟩ = true
            · rw [if_pos ⟨hh.1, hh.2.1, hbad.2.1, hbad.2.2, hh.2.2⟩, if_pos hh]
            · rw [if_neg (fun g => hh ⟨g.1, g.2.1, g.2.2.2.2⟩), if_neg hh]
    · have hfl : (t6.2.2 || (decide (t6.1 < 0) || decide (t6.1 > 1))) = true := by
        cases hq : t6.2.2 with
        | true => rfl
        | false =>
          rw [hq] at hbad
          by_cases q1 : t6.1 < 0
          · rw [decide_eq_true q1]; rfl
          · rw [decide_eq_true (show t6.1 > 1 by
              by_cases q2 : t6.1 > 1
              · exact q2
              · exact absurd ⟨rfl, by omega, by omega⟩ hbad), Bool.or_true, Bool.or_true]
      rw [hfl]
      have hn : ∀ p : Int, numsM (L s) p true = ([], p, true) := fun p => by unfold numsM; rw [if_pos (.inl (by rw [numM_true])), numM_true]
      rw [hn]
      by_cases k0 : (numM (L s) t6.2.1 t6.2.2).1 < 0
      · rw [if_pos k0, if_neg (fun h => by cases h.1)]
      · rw [if_neg k0]
        by_cases k9 : (numM (L s) t6.2.1 t6.2.2).1 > 9
        · rw [if_pos k9, if_neg (fun h => by cases h.1)]
        · rw [if_neg k9, LPZ, Option.bind_some]
          dsimp only
          rw [fin_ev K hK]
          cases hq : t6.2.2 with
          | true =>
            rw [numM_true]
            rw [if_neg (fun h => by
              have h1 : (readN (L s) (0 : Int).toNat t6.2.1 true).2.2 = false := h.1
              cases h1), if_neg (fun h => by cases h.1)]
          | false =>
            rw [if_neg (fun h => hbad ⟨hq, h.2.2.1, h.2.2.2.1⟩), if_neg (fun h => by cases h.1)]
  · rw [if_neg c]
    simp only [if_neg c]
    by_cases c1 : t0.1 = 1 ∨ t0.1 = 2 ∨ t0.1 = 3
    · rw [if_pos c1]
      simp only [if_pos c1]
      have r1 := R t0.2.1 t0.2.2 r0.1 r0.2
      have r2 := R _ (numM (L s) t0.2.1 t0.2.2).2.2 r1.1 r1.2
      rw [N _ _ r0.1 r0.2, Option.bind_some]
      dsimp only
      rw [N _ _ r1.1 r1.2, Option.bind_some]
      dsimp only
      rw [N _ _ r2.1 r2.2, Option.bind_some, fin_ev K hK]
      simp
    · rw [if_neg c1]
      simp only [if_neg c1]
      by_cases c5 : t0.1 = 5
      · rw [if_pos c5]
        simp only [if_pos c5]
        rw [N _ _ r0.1 r0.2, Option.bind_some, fin_ev K hK]
        simp
      · rw [if_neg c5]
        simp only [if_neg c5]
        rw [fin_ev K hK]
        simp

end Go.Proofs.Ytikfpihapdabfaa.RecRef
