/- Records as bytes. No condition. -/
import Derived.Test.YtikfpihapdabfaaQRecordsx13
import Derived.Test.YtikfpihapdabfaaQRecordsx12
import Derived.Test.YtikfpihapdabfaaQRecordsx11
import Derived.Test.YtikfpihapdabfaaQRecordsx4
namespace Go.Proofs.Ytikfpihapdabfaa.RecPureR
open Go.RowKit Go.Proofs.Ytikfpihapdabfaa.QRecords Go.Proofs.YtikfpihapdabfaaW.PrintWords Go.Proofs.YtikfpihapdabfaaW.PrintLast Go.Proofs.YtikfpihapdabfaaW.PrintMore
set_option linter.unusedVariables false
set_option linter.unusedSimpArgs false

/-! ### base -/
theorem wf_i64 {a : Int} (h : (Lit.int .i64 a).wf = true) : -9223372036854775808 ≤ a ∧ a ≤ 9223372036854775807 := by
  simpa [Lit.wf, IntKind.min, IntKind.max, IntKind.signed, IntKind.bits] using h
theorem wrap64_id {n : Int} (h1 : -9223372036854775808 ≤ n) (h2 : n ≤ 9223372036854775807) : wrap64 n = n := by
  unfold wrap64; omega
theorem toNat_ofInt64 (a : Int) : ((BitVec.ofInt 64 a).toNat : Int) = a % 18446744073709551616 := by
  rw [BitVec.toNat_ofInt]
  have h : (0 : Int) ≤ a % ((2 ^ 64 : Nat) : Int) := Int.emod_nonneg _ (by decide)
  rw [Int.toNat_of_nonneg h]; rfl
theorem wrap_i64_nat (n : Nat) (h : n < 9223372036854775808) : IntKind.i64.wrap (n : Int) = (n : Int) := by
  rw [IntKind.wrap_i64]; omega
theorem and_mask (a : Int) (j : Nat) (hj : j ≤ 63) : Go.bits .and .i64 a (2 ^ j - 1) = a % 2 ^ j := by
  have hp : 2 ^ j ≤ 2 ^ 63 := Nat.pow_le_pow_right (by decide) hj
  have hpos : 0 < 2 ^ j := Nat.two_pow_pos j
  have hc : ((2 : Int) ^ j - 1) = ((2 ^ j - 1 : Nat) : Int) := by
    rw [Int.natCast_sub hpos]; simp
  have hd : (2 : Int) ^ j ∣ 18446744073709551616 := ⟨2 ^ (64 - j), by rw [← Int.pow_add]; rw [show j + (64 - j) = 64 by omega]; rfl⟩
  show IntKind.i64.wrap (((BitVec.ofInt 64 a &&& BitVec.ofInt 64 (2 ^ j - 1)).toNat : Nat) : Int) = _
  rw [BitVec.toNat_and, hc, BitVec.ofInt_natCast, BitVec.toNat_ofNat, Nat.mod_eq_of_lt (Nat.lt_of_lt_of_le (Nat.sub_lt hpos (by decide)) (Nat.le_trans hp (by decide))), Nat.and_two_pow_sub_one_eq_mod]
  rw [wrap_i64_nat _ (Nat.lt_of_lt_of_le (Nat.mod_lt _ hpos) hp), Int.natCast_emod, toNat_ofInt64, Int.natCast_pow]
  exact Int.emod_emod_of_dvd a hd
theorem and_m (a : Int) (j : Nat) (m p : Int) (hj : j ≤ 63) (hp : (2 : Int) ^ j = p) (hm : m = p - 1) : Go.bits .and .i64 a m = a % p := by
  subst hm; rw [← hp]; exact and_mask a j hj

/-! ### bytes -/
def L (s : ByteArray) : List Nat := s.data.toList.map UInt8.toNat
theorem L_len (s : ByteArray) : (L s).length = s.size := by unfold L; simp
theorem L_append (a b : ByteArray) : L (a ++ b) = L a ++ L b := by unfold L; simp [ByteArray.data_append]
theorem L_extract (s : ByteArray) (i j : Nat) : L (s.extract i j) = ((L s).take j).drop i := by
  unfold L; rw [ByteArray.data_extract, Array.toList_extract, List.extract_eq_take_drop]
  rw [List.map_take, List.map_drop, List.drop_take]
theorem L_lt (s : ByteArray) : ∀ x ∈ L s, x < 256 := by
  intro x hx
  unfold L at hx
  obtain ⟨b, _, rfl⟩ := List.mem_map.1 hx
  exact b.toNat_lt
theorem L_inj {s t : ByteArray} (h : L s = L t) : s = t := by
  unfold L at h
  have hi : Function.Injective UInt8.toNat := fun a b h => UInt8.toNat_inj.1 h
  have := (List.map_inj_right (fun a b h => hi h)).1 h
  cases s; cases t
  congr 1
  exact Array.toList_inj.1 this
theorem bt_L (s : ByteArray) (i : Int) : bt s i = (((L s).getD i.toNat 0 : Nat) : Int) := by
  unfold bt L
  by_cases h : i.toNat < s.size
  · rw [dif_pos h, List.getD_eq_getElem?_getD, List.getElem?_map, List.getElem?_eq_getElem (by simpa using h)]
    simp; rfl
  · rw [dif_neg h, List.getD_eq_getElem?_getD, List.getElem?_eq_none (by simpa using h)]
    simp
theorem L_mk (l : List UInt8) : L ⟨l.toArray⟩ = l.map UInt8.toNat := by unfold L; simp
theorem L_str (xs : List Nat) (h : ∀ x ∈ xs, x < 256) : L (strOfNums (xs.map fun n : Nat => (n : Int))) = xs := by
  unfold strOfNums L
  simp only [List.map_map]
  conv => rhs; rw [← List.map_id xs]
  apply List.map_congr_left
  intro x hx
  have := h x hx
  simp [Function.comp]
  omega
theorem eq_of_toList {s t : ByteArray} (h : s.toList = t.toList) : s = t := by
  rw [ByteArray.toList_eq, ByteArray.toList_eq] at h
  cases s; cases t
  congr 1
  exact Array.toList_inj.1 h
theorem toList_beq (s t : ByteArray) : (s.toList == t.toList) = decide (L s = L t) := by
  by_cases h : s = t
  · subst h; simp
  · have h1 : ¬ s.toList = t.toList := fun e => h (eq_of_toList e)
    have h2 : ¬ L s = L t := fun e => h (L_inj e)
    simp [h1, h2]
theorem L_toList (s : ByteArray) : s.toList.map UInt8.toNat = L s := by rw [ByteArray.toList_eq]; rfl
theorem toList_lit (s : ByteArray) (l : List UInt8) : (s.toList = l) ↔ L s = l.map UInt8.toNat := by
  constructor
  · rintro rfl; rw [L_toList]
  · intro h
    rw [← L_toList] at h
    exact (List.map_inj_right (fun a b h => UInt8.toNat_inj.1 h)).1 h
attribute [local irreducible] L bt

/-! ### vmath -/
def enc (u : Nat) : List Nat := if h : u < 128 then [u] else (u % 128 + 128) :: enc (u / 128)
termination_by u
def zig (x : Int) : Nat := if 0 ≤ x then (2 * x).toNat else (-2 * x - 1).toNat
def unzig (u : Nat) : Int := if u % 2 = 0 then ((u / 2 : Nat) : Int) else -((u / 2 : Nat) : Int) - 1
def fin : List Nat → Nat
  | [] => 0
  | b :: r => if b < 128 then 1 else if fin r = 0 then 0 else fin r + 1
def val : List Nat → Nat
  | [] => 0
  | b :: r => b % 128 + 128 * val r
def getS (l : List Nat) (p : Int) : Int × Int × Int :=
  if fin (l.take 10) = 0 then (if l.length < 10 then (0, 0, 701) else (0, 0, 700))
  else if (fin (l.take 10) = 10 ∧ 1 < l.getD 9 0) ∨ (1 < fin (l.take 10) ∧ l.getD (fin (l.take 10) - 1) 0 = 0) then (0, 0, 700)
  else (unzig (val (l.take (fin (l.take 10)))), p + fin (l.take 10), 0)
theorem enc_small {u : Nat} (h : u < 128) : enc u = [u] := by rw [enc]; rw [dif_pos h]
theorem enc_big {u : Nat} (h : ¬ u < 128) : enc u = (u % 128 + 128) :: enc (u / 128) := by rw [enc]; rw [dif_neg h]
theorem enc_pos (u : Nat) : 1 ≤ (enc u).length := by
  by_cases h : u < 128
  · rw [enc_small h]; simp
  · rw [enc_big h]; simp
theorem enc_ne (u : Nat) : enc u ≠ [] := by
  have := enc_pos u
  intro h; rw [h] at this; simp at this
theorem enc_lt (n : Nat) : ∀ u, u < 128 ^ n → ∀ x ∈ enc u, x < 256 := by
  induction n with
  | zero => intro u hu x hx; rw [enc_small (by omega)] at hx; simp at hx; omega
  | succ n ih =>
    intro u hu x hx
    by_cases h : u < 128
    · rw [enc_small h] at hx; simp at hx; omega
    · rw [enc_big h] at hx
      rcases List.mem_cons.1 hx with rfl | hx
      · omega
      · exact ih (u / 128) (by rw [Nat.pow_succ] at hu; omega) x hx
theorem enc_len (n : Nat) : ∀ u, u < 128 ^ (n + 1) → (n = 0 ∨ 128 ^ n ≤ u) → (enc u).length = n + 1 := by
  induction n with
  | zero => intro u hu _; rw [enc_small (by simpa using hu)]; rfl
  | succ n ih =>
    intro u hu hl
    have hl : 128 ^ (n + 1) ≤ u := by omega
    have h1 : 1 ≤ 128 ^ n := Nat.pow_pos (by decide)
    rw [Nat.pow_succ] at hl hu
    rw [enc_big (by omega)]
    simp only [List.length_cons]
    rw [ih (u / 128) (by omega) (by omega)]
theorem enc_le (n : Nat) : ∀ u, u < 128 ^ (n + 1) → (enc u).length ≤ n + 1 := by
  induction n with
  | zero => intro u hu; rw [enc_small (by simpa using hu)]; simp
  | succ n ih =>
    intro u hu
    by_cases h : u < 128
    · rw [enc_small h]; simp
    · rw [enc_big h]
      rw [Nat.pow_succ] at hu
      have := ih (u / 128) (by omega)
      simp only [List.length_cons]; omega
theorem enc_len10 {u : Nat} (h : u < 18446744073709551616) : (enc u).length ≤ 10 := enc_le 9 u (Nat.lt_of_lt_of_le h (by decide))
theorem fin_enc (r : List Nat) (n : Nat) : ∀ u, u < 128 ^ n → fin (enc u ++ r) = (enc u).length := by
  induction n with
  | zero => intro u hu; rw [enc_small (by omega)]; simp [fin]; omega
  | succ n ih =>
    intro u hu
    by_cases h : u < 128
    · rw [enc_small h]; simp [fin]; omega
    · rw [enc_big h]
      rw [Nat.pow_succ] at hu
      have e := ih (u / 128) (by omega)
      have hp := enc_pos (u / 128)
      simp only [List.cons_append, fin, e, List.length_cons]
      rw [if_neg (by omega), if_neg (by omega)]
theorem fin_cut (n : Nat) : ∀ u, u < 128 ^ n → ∀ m, m < (enc u).length → fin ((enc u).take m) = 0 := by
  induction n with
  | zero => intro u hu m hm; rw [enc_small (by omega)] at *; simp at hm; subst hm; rfl
  | succ n ih =>
    intro u hu m hm
    by_cases h : u < 128
    · rw [enc_small h] at *; simp at hm; subst hm; rfl
    · rw [enc_big h] at *
      rw [Nat.pow_succ] at hu
      cases m with
      | zero => rfl
      | succ m =>
        simp only [List.length_cons] at hm
        have e := ih (u / 128) (by omega) m (by omega)
        simp only [List.take_succ_cons, fin, e]
        rw [if_neg (by omega)]; rfl
theorem val_enc (n : Nat) : ∀ u, u < 128 ^ n → val (enc u) = u := by
  induction n with
  | zero => intro u hu; rw [enc_small (by omega)]; simp [val]; omega
  | succ n ih =>
    intro u hu
    by_cases h : u < 128
    · rw [enc_small h]; simp [val]; omega
    · rw [enc_big h]
      rw [Nat.pow_succ] at hu
      simp only [val, ih (u / 128) (by omega)]; omega
theorem val_lt (l : List Nat) : val l < 128 ^ l.length := by
  induction l with
  | nil => simp [val]
  | cons b r ih => simp only [val, List.length_cons, Nat.pow_succ]; omega
theorem val_app (a b : List Nat) : val (a ++ b) = val a + 128 ^ a.length * val b := by
  induction a with
  | nil => simp [val]
  | cons x r ih =>
    simp only [List.cons_append, val, ih, List.length_cons, Nat.pow_succ]
    rw [Nat.mul_add, ← Nat.mul_assoc, Nat.mul_comm 128 (128 ^ r.length)]; omega
theorem fin_le (l : List Nat) : fin l ≤ l.length := by
  induction l with
  | nil => simp [fin]
  | cons b r ih => simp only [fin, List.length_cons]; split <;> (try split) <;> omega
theorem val_bound (l : List Nat) (h0 : fin (l.take 10) ≠ 0) (hc : ¬ ((fin (l.take 10) = 10 ∧ 1 < l.getD 9 0) ∨ (1 < fin (l.take 10) ∧ l.getD (fin (l.take 10) - 1) 0 = 0))) :
    val (l.take (fin (l.take 10))) < 18446744073709551616 := by
  have hf := fin_le (l.take 10)
  rw [List.length_take] at hf
  generalize fin (l.take 10) = n at *
  have e9 : (128 : Nat) ^ 9 = 9223372036854775808 := by decide
  by_cases c : n = 10
  · subst c
    have h9 : ¬ 1 < l.getD 9 0 := fun z => hc (Or.inl ⟨rfl, z⟩)
    have hl : 9 < l.length := by omega
    rw [List.take_succ_eq_append_getElem hl, val_app]
    have hv := val_lt (l.take 9)
    rw [List.length_take, Nat.min_eq_left (by omega), e9] at hv
    rw [List.getD_eq_getElem?_getD, List.getElem?_eq_getElem hl] at h9
    simp only [Option.getD_some] at h9
    rw [List.length_take, Nat.min_eq_left (by omega), e9]
    simp only [val]
    omega
  · have hv := val_lt (l.take n)
    have : 128 ^ (l.take n).length ≤ 128 ^ 9 := Nat.pow_le_pow_right (by decide) (by rw [List.length_take]; omega)
    omega
/-- The last byte of a number's bytes. -/
theorem enc_last (n : Nat) : ∀ u, u < 128 ^ n → ∀ r, (enc u ++ r).getD ((enc u).length - 1) 0 = u / 128 ^ ((enc u).length - 1) ∧ (1 < (enc u).length → 1 ≤ u / 128 ^ ((enc u).length - 1)) := by
  induction n with
  | zero => intro u hu r; rw [enc_small (by omega)]; simp
  | succ n ih =>
    intro u hu r
    by_cases h : u < 128
    · rw [enc_small h]; simp
    · have hp := enc_pos (u / 128)
      rw [Nat.pow_succ] at hu
      obtain ⟨e1, e2⟩ := ih (u / 128) (by omega) r
      rw [enc_big h]
      simp only [List.length_cons, Nat.add_sub_cancel, List.cons_append]
      have hk : (enc (u / 128)).length = ((enc (u / 128)).length - 1) + 1 := by omega
      have hq : u / 128 ^ (enc (u / 128)).length = u / 128 / 128 ^ ((enc (u / 128)).length - 1) := by
        conv => lhs; rw [hk]
        rw [Nat.pow_succ, Nat.mul_comm, Nat.div_div_eq_div_mul]
      constructor
      · rw [hq, ← e1]
        conv => lhs; rw [hk]
        rw [List.getD_cons_succ]
      · intro _
        rw [hq]
        by_cases c : 1 < (enc (u / 128)).length
        · exact e2 c
        · have : (enc (u / 128)).length - 1 = 0 := by omega
          rw [this]; simp; omega
theorem getS_enc {u : Nat} (hu : u < 18446744073709551616) (r : List Nat) (p : Int) : getS (enc u ++ r) p = (unzig u, p + (enc u).length, 0) := by
  have hu' : u < 128 ^ 10 := Nat.lt_of_lt_of_le hu (by decide)
  have h10 := enc_len10 hu
  have hp := enc_pos u
  have hf : fin ((enc u ++ r).take 10) = (enc u).length := by
    rw [List.take_append, List.take_of_length_le h10]
    exact fin_enc _ 10 u hu'
  obtain ⟨l1, l2⟩ := enc_last 10 u hu' r
  unfold getS
  rw [hf, if_neg (by omega), if_neg]
  · rw [List.take_left, val_enc 10 u hu']
  · rintro (⟨h1, h2⟩ | ⟨h1, h2⟩)
    · rw [h1] at l1
      have : u / 128 ^ (10 - 1) ≤ 1 := by
        have : u / 128 ^ (10 - 1) < 2 := Nat.div_lt_of_lt_mul (by simpa using hu)
        omega
      have : (enc u ++ r).getD 9 0 = u / 128 ^ (10 - 1) := l1
      omega
    · rw [l1] at h2
      have := l2 h1
      omega
theorem enc_of (l : List Nat) : (∀ x ∈ l, x < 256) → fin l = l.length → 1 ≤ l.length → (l.length = 1 ∨ l.getD (l.length - 1) 0 ≠ 0) → enc (val l) = l := by
  induction l with
  | nil => intro _ _ h; simp at h
  | cons b r ih =>
    intro hb hf h1 hl
    have hb0 := hb b (List.mem_cons_self ..)
    cases r with
    | nil =>
      have : b < 128 := by
        by_cases c : b < 128
        · exact c
        · simp [fin, c] at hf
      simp only [val]
      rw [enc_small (by omega)]; congr 1; omega
    | cons c r =>
      have hbig : ¬ b < 128 := by
        intro c'; simp [fin, c'] at hf
      have hf' : fin (c :: r) = (c :: r).length := by
        rw [fin, if_neg hbig] at hf
        by_cases z : fin (c :: r) = 0
        · rw [if_pos z] at hf; simp at hf
        · rw [if_neg z] at hf; simpa using hf
      have hl' : (c :: r).length = 1 ∨ (c :: r).getD ((c :: r).length - 1) 0 ≠ 0 := by
        rcases hl with hl | hl
        · simp at hl
        · refine Or.inr ?_
          simpa using hl
      have e := ih (fun x hx => hb x (List.mem_cons_of_mem _ hx)) hf' (by simp) hl'
      have hv : val (c :: r) ≠ 0 := by
        intro z
        rw [z, enc_small (by decide)] at e
        have : c = 0 ∧ r = [] := by simpa using e.symm
        obtain ⟨rfl, rfl⟩ := this
        rcases hl with hl | hl
        · simp at hl
        · simp at hl
      have ev : val (b :: c :: r) = b % 128 + 128 * val (c :: r) := rfl
      rw [ev, enc_big (by omega)]
      rw [show (b % 128 + 128 * val (c :: r)) / 128 = val (c :: r) by omega, e]
      congr 1; omega
theorem fin_take (l : List Nat) : fin l ≠ 0 → fin (l.take (fin l)) = fin l := by
  induction l with
  | nil => intro h; simp [fin] at h
  | cons b r ih =>
    intro h
    by_cases c : b < 128
    · have : fin (b :: r) = 1 := by simp [fin, c]
      rw [this]; simp [fin, c]
    · by_cases z : fin r = 0
      · exfalso; apply h; simp [fin, c, z]
      · have e : fin (b :: r) = fin r + 1 := by simp [fin, c, z]
        rw [e, List.take_succ_cons]
        simp [fin, c, ih z, z]
theorem getS_ok {l : List Nat} {p x q : Int} (hb : ∀ y ∈ l, y < 256) (h : getS l p = (x, q, 0)) :
    ∃ u r, u < 18446744073709551616 ∧ l = enc u ++ r ∧ x = unzig u ∧ q = p + (enc u).length := by
  unfold getS at h
  by_cases h0 : fin (l.take 10) = 0
  · rw [if_pos h0] at h
    split at h <;> simp at h
  · rw [if_neg h0] at h
    by_cases hc : (fin (l.take 10) = 10 ∧ 1 < l.getD 9 0) ∨ (1 < fin (l.take 10) ∧ l.getD (fin (l.take 10) - 1) 0 = 0)
    · rw [if_pos hc] at h; simp at h
    · rw [if_neg hc] at h
      simp only [Prod.mk.injEq] at h
      obtain ⟨h1, h2, _⟩ := h
      have hvb := val_bound l h0 hc
      generalize hn : fin (l.take 10) = n at *
      have hle : n ≤ 10 := by
        have := fin_le (l.take 10)
        rw [List.length_take] at this; omega
      have hll : n ≤ l.length := by
        have := fin_le (l.take 10)
        rw [List.length_take] at this; omega
      have ht : (l.take n).length = n := by rw [List.length_take]; omega
      have hfn : fin (l.take n) = n := by
        have := fin_take (l.take 10) (by omega)
        rw [hn, List.take_take, Nat.min_eq_left hle] at this
        exact this
      have hlast : (l.take n).getD (n - 1) 0 = l.getD (n - 1) 0 := by
        rw [List.getD_eq_getElem?_getD, List.getD_eq_getElem?_getD, List.getElem?_take_of_lt (by omega)]
      have he : enc (val (l.take n)) = l.take n := by
        refine enc_of _ (fun y hy => hb y (List.mem_of_mem_take hy)) (by rw [hfn, ht]) (by omega) ?_
        rw [ht, hlast]
        by_cases c : n = 1
        · exact Or.inl c
        · exact Or.inr (fun z => hc (Or.inr ⟨by omega, z⟩))
      refine ⟨val (l.take n), l.drop n, ?_, ?_, h1.symm, ?_⟩
      · exact hvb
      · rw [he, List.take_append_drop]
      · rw [he, ht]; exact h2.symm
theorem getS_code (l : List Nat) (p : Int) : (getS l p).2.2 = 0 ∨ getS l p = (0, 0, 700) ∨ getS l p = (0, 0, 701) := by
  unfold getS
  split
  · split <;> simp
  · split <;> simp
theorem unzig_zig (x : Int) : unzig (zig x) = x := by
  unfold unzig zig
  by_cases h : 0 ≤ x
  · rw [if_pos h, if_pos (by omega)]; omega
  · rw [if_neg h, if_neg (by omega)]; omega
theorem zig_unzig (u : Nat) : zig (unzig u) = u := by
  unfold unzig zig
  by_cases h : u % 2 = 0
  · rw [if_pos h, if_pos (by omega)]; omega
  · rw [if_neg h, if_neg (by omega)]; omega
theorem zig_lt {x : Int} (h1 : -9223372036854775808 ≤ x) (h2 : x ≤ 9223372036854775807) : zig x < 18446744073709551616 := by
  unfold zig; split <;> omega
theorem unzig_range {u : Nat} (h : u < 18446744073709551616) : -9223372036854775808 ≤ unzig u ∧ unzig u ≤ 9223372036854775807 := by
  unfold unzig; split <;> omega
theorem getS_cut {u : Nat} (hu : u < 18446744073709551616) (m : Nat) (hm : m < (enc u).length) (p : Int) : getS ((enc u).take m) p = (0, 0, 701) := by
  have h10 := enc_len10 hu
  unfold getS
  rw [List.take_take, Nat.min_eq_right (by omega), fin_cut 10 u (Nat.lt_of_lt_of_le hu (by decide)) m hm, if_pos rfl, if_pos (by rw [List.length_take]; omega)]
theorem enc_inj {u v : Nat} (hu : u < 18446744073709551616) (hv : v < 18446744073709551616) (r t : List Nat) (h : enc u ++ r = enc v ++ t) : u = v ∧ r = t := by
  have h1 := getS_enc hu r 0
  have h2 := getS_enc hv t 0
  rw [h, h2] at h1
  simp only [Prod.mk.injEq] at h1
  have e : u = v := by rw [← zig_unzig u, ← zig_unzig v, h1.1]
  subst e
  exact ⟨rfl, List.append_cancel_left h⟩

theorem fin_small {b : Nat} (h : b < 128) (r : List Nat) : fin (b :: r) = 1 := by simp [fin, h]
theorem fin_big0 {b : Nat} (h : ¬ b < 128) {r : List Nat} (z : fin r = 0) : fin (b :: r) = 0 := by simp [fin, h, z]
theorem fin_big1 {b : Nat} (h : ¬ b < 128) {r : List Nat} (z : fin r ≠ 0) : fin (b :: r) = fin r + 1 := by simp [fin, h, z]

/-! ### vbits -/
theorem u8or_all : ∀ n : Fin 256, Go.bits .or .u8 (n.val : Int) 128 = ((n.val % 128 + 128 : Nat) : Int) := by decide +kernel
theorem u8and_all : ∀ n : Fin 256, Go.bits .and .u8 (n.val : Int) 127 = ((n.val % 128 : Nat) : Int) := by decide +kernel
theorem u8or (n : Nat) (h : n < 256) : Go.bits .or .u8 (n : Int) 128 = ((n % 128 + 128 : Nat) : Int) := u8or_all ⟨n, h⟩
theorem u8and (n : Nat) (h : n < 256) : Go.bits .and .u8 (n : Int) 127 = ((n % 128 : Nat) : Int) := u8and_all ⟨n, h⟩
theorem wrap_u64 (n : Int) : IntKind.u64.wrap n = n % 18446744073709551616 := by simp [IntKind.wrap, IntKind.bits, IntKind.signed]
theorem wrap_u64_id {n : Int} (h0 : 0 ≤ n) (h1 : n < 18446744073709551616) : IntKind.u64.wrap n = n := by rw [wrap_u64]; omega
theorem bv_nat (x : Nat) (h : x < 18446744073709551616) : (BitVec.ofInt 64 (x : Int)).toNat = x := by
  rw [BitVec.ofInt_natCast, BitVec.toNat_ofNat]; exact Nat.mod_eq_of_lt h
theorem xor64_zero (x : Nat) (h : x < 18446744073709551616) : Go.bits .xor .u64 (x : Int) 0 = (x : Int) := by
  show IntKind.u64.wrap (((BitVec.ofInt 64 (x : Int) ^^^ BitVec.ofInt 64 0).toNat : Nat) : Int) = _
  rw [show BitVec.ofInt 64 0 = 0#64 from rfl, BitVec.xor_zero, bv_nat x h, wrap_u64]; omega
theorem xor64_ones (x : Nat) (h : x < 18446744073709551616) : Go.bits .xor .u64 (x : Int) 18446744073709551615 = 18446744073709551615 - (x : Int) := by
  show IntKind.u64.wrap (((BitVec.ofInt 64 (x : Int) ^^^ BitVec.ofInt 64 18446744073709551615).toNat : Nat) : Int) = _
  rw [show BitVec.ofInt 64 18446744073709551615 = BitVec.allOnes 64 from by decide, BitVec.xor_allOnes, BitVec.toNat_not, bv_nat x h, wrap_u64]; omega
theorem xori_zero (x : Nat) (h : x < 9223372036854775808) : Go.bits .xor .i64 (x : Int) 0 = (x : Int) := by
  show IntKind.i64.wrap (((BitVec.ofInt 64 (x : Int) ^^^ BitVec.ofInt 64 0).toNat : Nat) : Int) = _
  rw [show BitVec.ofInt 64 0 = 0#64 from rfl, BitVec.xor_zero, bv_nat x (by omega), IntKind.wrap_i64]; omega
theorem xori_ones (x : Nat) (h : x < 9223372036854775808) : Go.bits .xor .i64 (x : Int) (-1) = -(x : Int) - 1 := by
  show IntKind.i64.wrap (((BitVec.ofInt 64 (x : Int) ^^^ BitVec.ofInt 64 (-1)).toNat : Nat) : Int) = _
  rw [show BitVec.ofInt 64 (-1) = BitVec.allOnes 64 from by decide, BitVec.xor_allOnes, BitVec.toNat_not, bv_nat x (by omega), IntKind.wrap_i64]; omega
theorem and64_one (x : Nat) (h : x < 18446744073709551616) : Go.bits .and .u64 (x : Int) 1 = ((x % 2 : Nat) : Int) := by
  have := bits_mask .u64 64 (Nat.le_refl _) (fun n h0 h1 => wrap_u64_id h0 (by simpa using h1)) 1 (by decide) (x : Int) (by omega) (by simpa using Int.ofNat_lt.2 h)
  simpa using this
theorem or64 (x y : Nat) (hx : x < 18446744073709551616) (hd : x % 128 = 0) (hy : y < 128) : Go.bits .or .u64 (x : Int) (y : Int) = ((x + y : Nat) : Int) := by
  have := bits_join .u64 64 (Nat.le_refl _) (fun n h0 h1 => wrap_u64_id h0 (by simpa using h1)) 7 (x : Int) (y : Int) (by omega) (by simp; omega) (by simpa using Int.ofNat_lt.2 hx) (by omega) (by simp; omega) (by simp; omega)
  rw [this]; simp
/-- Bytes of small numbers. -/
def S (l : List Nat) : ByteArray := strOfNums (l.map fun n : Nat => (n : Int))
theorem L_S {l : List Nat} (h : ∀ x ∈ l, x < 256) : L (S l) = l := L_str l h
theorem put_u {x : Int} (h1 : -9223372036854775808 ≤ x) (h2 : x ≤ 9223372036854775807) :
    Go.bits .xor .u64 (IntKind.u64.wrap ((IntKind.u64.wrap x) * 2)) (IntKind.u64.wrap (x / 9223372036854775808)) = ((zig x : Nat) : Int) := by
  unfold zig
  by_cases h : 0 ≤ x
  · have e1 : IntKind.u64.wrap (x / 9223372036854775808) = 0 := by rw [wrap_u64]; omega
    have e2 : IntKind.u64.wrap ((IntKind.u64.wrap x) * 2) = (((2 * x).toNat : Nat) : Int) := by rw [wrap_u64, wrap_u64]; omega
    rw [e1, e2, xor64_zero _ (by omega), if_pos h]
  · have e1 : IntKind.u64.wrap (x / 9223372036854775808) = 18446744073709551615 := by rw [wrap_u64]; omega
    have e2 : IntKind.u64.wrap ((IntKind.u64.wrap x) * 2) = (((2 * x + 18446744073709551616).toNat : Nat) : Int) := by rw [wrap_u64, wrap_u64]; omega
    rw [e1, e2, xor64_ones _ (by omega), if_neg h]; omega
theorem xor64_ones' (x : Nat) (h : x < 18446744073709551616) : Go.bits .xor .u64 18446744073709551615 (x : Int) = 18446744073709551615 - (x : Int) := by
  show IntKind.u64.wrap (((BitVec.ofInt 64 18446744073709551615 ^^^ BitVec.ofInt 64 (x : Int)).toNat : Nat) : Int) = _
  rw [show BitVec.ofInt 64 18446744073709551615 = BitVec.allOnes 64 from by decide, BitVec.xor_comm, BitVec.xor_allOnes, BitVec.toNat_not, bv_nat x h, wrap_u64]; omega
theorem or128u_all : ∀ n : Fin 128, (Go.bits .or .u64 (n.val : Int) 128) % 256 = ((n.val + 128 : Nat) : Int) := by decide +kernel
theorem and127u (x : Nat) (h : x < 18446744073709551616) : Go.bits .and .u64 (x : Int) 127 = ((x % 128 : Nat) : Int) := by
  have := bits_mask .u64 64 (Nat.le_refl _) (fun n h0 h1 => wrap_u64_id h0 (by simpa using h1)) 7 (by decide) (x : Int) (by omega) (by simpa using Int.ofNat_lt.2 h)
  simpa using this
theorem fin_app0 (b : Nat) (hb : ¬ b < 128) : ∀ l, fin l = 0 → fin (l ++ [b]) = 0 := by
  intro l
  induction l with
  | nil => intro _; simp [fin, hb]
  | cons c r ih =>
    intro h
    by_cases c1 : c < 128
    · simp [fin, c1] at h
    · have hr : fin r = 0 := by
        by_cases z : fin r = 0
        · exact z
        · simp [fin, c1, z] at h
      simp [fin, c1, ih hr]
theorem fin_app1 (b : Nat) (hb : b < 128) (t : List Nat) : ∀ l, fin l = 0 → fin (l ++ b :: t) = l.length + 1 := by
  intro l
  induction l with
  | nil => intro _; simp [fin, hb]
  | cons c r ih =>
    intro h
    by_cases c1 : c < 128
    · simp [fin, c1] at h
    · have hr : fin r = 0 := by
        by_cases z : fin r = 0
        · exact z
        · simp [fin, c1, z] at h
      simp [fin, c1, ih hr]

/-! ### vcode -/
theorem put_l0 (n : Nat) : ∀ (u : Nat) (acc : List Nat), u < 128 ^ (n + 1) → acc.length + n + 1 < 140737488355328 → ∀ k, n < k → varint_Put.l0 k (u : Int) (acc.map fun n : Nat => (n : Int)) = some (S (acc ++ enc u)) := by
  induction n with
  | zero =>
    intro u acc hu hl k hk
    obtain ⟨k, rfl⟩ : ∃ m, k = m + 1 := ⟨k - 1, by omega⟩
    have hu : u < 128 := by simpa using hu
    simp only [varint_Put.l0]
    rw [if_neg (by omega), List.length_map, if_pos (by omega), enc_small hu]
    rw [show (u : Int) % 256 = (u : Int) by omega]
    simp [S]
  | succ n ih =>
    intro u acc hu hl k hk
    obtain ⟨k, rfl⟩ : ∃ m, k = m + 1 := ⟨k - 1, by omega⟩
    simp only [varint_Put.l0]
    by_cases h : u < 128
    · rw [if_neg (by omega), List.length_map, if_pos (by omega), enc_small h]
      rw [show (u : Int) % 256 = (u : Int) by omega]
      simp [S]
    · rw [if_pos (by omega), List.length_map, if_pos (by omega)]
      have e1 : (u : Int) / 128 = ((u / 128 : Nat) : Int) := by omega
      have e2 : (u : Int) % 256 = ((u % 256 : Nat) : Int) := by omega
      rw [e1, e2, u8or _ (by omega), enc_big h]
      have e3 : u % 256 % 128 + 128 = u % 128 + 128 := by omega
      rw [e3]
      rw [Nat.pow_succ] at hu
      have := ih (u / 128) (acc ++ [u % 128 + 128]) (by omega) (by simp; omega) k (by omega)
      rw [List.map_append] at this
      simp only [List.map_cons, List.map_nil] at this
      rw [this, List.append_assoc]; rfl
theorem put_ev {x : Int} (h1 : -9223372036854775808 ≤ x) (h2 : x ≤ 9223372036854775807) : ∀ k, 11 ≤ k → varint_Put.f k x = some (S (enc (zig x))) := by
  intro k hk
  unfold varint_Put.f
  rw [put_u h1 h2]
  exact put_l0 9 (zig x) [] (Nat.lt_of_lt_of_le (zig_lt h1 h2) (by decide)) (by simp) k (by omega)
theorem L_put {x : Int} (h1 : -9223372036854775808 ≤ x) (h2 : x ≤ 9223372036854775807) : L (S (enc (zig x))) = enc (zig x) :=
  L_S (enc_lt 10 _ (Nat.lt_of_lt_of_le (zig_lt h1 h2) (by decide)))
def eo (n i : Nat) : Nat := if n = 0 then 0 else i + n
theorem eo_zero (i : Nat) : eo 0 i = 0 := rfl
theorem eo_pos {n : Nat} (h : n ≠ 0) (i : Nat) : eo n i = i + n := by unfold eo; rw [if_neg h]
theorem ends_l0 (s : ByteArray) (m : Nat) (hm : m ≤ s.size) (h10 : m ≤ 10) (d : Nat) : ∀ (i k : Nat), m - i = d → i ≤ m → d < k →
    varint_ends.l0 k s (m : Int) (i : Int) = some ((eo (fin (((L s).take m).drop i)) i : Nat) : Int) := by
  have hlen := L_len s
  induction d with
  | zero =>
    intro i k hd hi hk
    obtain ⟨k, rfl⟩ : ∃ m, k = m + 1 := ⟨k - 1, by omega⟩
    obtain rfl : i = m := by omega
    simp only [varint_ends.l0]
    rw [if_neg (by omega), List.drop_eq_nil_of_le (by rw [List.length_take]; omega)]
    rfl
  | succ d ih =>
    intro i k hd hi hk
    obtain ⟨k, rfl⟩ : ∃ m, k = m + 1 := ⟨k - 1, by omega⟩
    simp only [varint_ends.l0]
    have hlt : i < ((L s).take m).length := by rw [List.length_take]; omega
    rw [if_pos (by omega), if_pos (by omega), if_pos (by omega), List.drop_eq_getElem_cons hlt]
    have hb : bt s (i : Int) = ((((L s).take m)[i] : Nat) : Int) := by
      rw [bt_L, Int.toNat_natCast, List.getElem_take, List.getD_eq_getElem?_getD, List.getElem?_eq_getElem (by omega)]; rfl
    have hw : wrap64 ((i : Int) + 1) = ((i + 1 : Nat) : Int) := by rw [wrap64_id (by omega) (by omega)]; omega
    rw [hb, hw]
    clear hb hw
    by_cases c : ((L s).take m)[i] < 128
    · have hc : ((((L s).take m)[i] : Nat) : Int) < 128 := by omega
      have e := fin_small c (List.drop (i + 1) (List.take m (L s)))
      rw [if_pos hc, e, eo_pos (by decide)]
    · have hc : ¬ ((((L s).take m)[i] : Nat) : Int) < 128 := by omega
      rw [if_neg hc, ih (i + 1) k (by omega) (by omega) (by omega)]
      by_cases z : fin (((L s).take m).drop (i + 1)) = 0
      · have e := fin_big0 c z
        rw [e, z, eo_zero, eo_zero]
      · have e := fin_big1 c z
        rw [e, eo_pos z, eo_pos (by omega)]
        congr 2; omega
theorem ends_ev (s : ByteArray) : ∀ k, 12 ≤ k → varint_ends.f k s = some ((fin ((L s).take 10) : Nat) : Int) := by
  intro k hk
  have hlen := L_len s
  unfold varint_ends.f
  have hm : mn (s.size : Int) 10 = ((min s.size 10 : Nat) : Int) := by unfold mn; split <;> omega
  rw [hm, show (0 : Int) = ((0 : Nat) : Int) from rfl, ends_l0 s (min s.size 10) (by omega) (by omega) (min s.size 10) 0 k (by omega) (by omega) (by omega)]
  rw [List.drop_zero]
  have ht : (L s).take (min s.size 10) = (L s).take 10 := by
    by_cases c : s.size ≤ 10
    · rw [Nat.min_eq_left c, List.take_of_length_le (by omega), List.take_of_length_le (by omega)]
    · rw [Nat.min_eq_right (by omega)]
  rw [ht]
  by_cases z : fin ((L s).take 10) = 0
  · rw [z, eo_zero]
  · rw [eo_pos z, Nat.zero_add]
theorem val_drop (l : List Nat) : ∀ i, val (l.drop i) ≤ val l := by
  induction l with
  | nil => intro i; simp
  | cons b r ih =>
    intro i
    cases i with
    | zero => simp
    | succ i => have := ih i; simp only [List.drop_succ_cons, val]; omega
theorem get_l0 (s : ByteArray) (p n : Nat) (hn : n ≤ 10) (hp : p + n ≤ s.size) (hs : s.size ≤ 4611686018427387904) (hv : val (((L s).drop p).take n) < 18446744073709551616) :
    ∀ i k, i ≤ n → i < k → varint_Get.l0 k s (p : Int) (n : Int) ((val ((((L s).drop p).take n).drop i) : Nat) : Int) ((i : Int) - 1) = some (unzig (val (((L s).drop p).take n)), ((p + n : Nat) : Int), 0) := by
  have hlen := L_len s
  intro i
  induction i with
  | zero =>
    intro k _ hk
    obtain ⟨k, rfl⟩ : ∃ m, k = m + 1 := ⟨k - 1, by omega⟩
    simp only [varint_Get.l0]
    rw [if_neg (by omega), List.drop_zero]
    generalize val (((L s).drop p).take n) = u at *
    rw [and64_one u hv, wrap64_id (n := (p : Int) + (n : Int)) (by omega) (by omega), show (u : Int) / 2 = ((u / 2 : Nat) : Int) by omega, wrap64_id (n := ((u / 2 : Nat) : Int)) (by omega) (by omega)]
    unfold unzig
    by_cases c : u % 2 = 0
    · rw [if_pos c, c]
      rw [show wrap64 (-(wrap64 ((0 : Nat) : Int))) = 0 from by decide +kernel, xori_zero _ (by omega)]; simp
    · rw [if_neg c, show u % 2 = 1 by omega]
      rw [show wrap64 (-(wrap64 ((1 : Nat) : Int))) = -1 from by decide +kernel, xori_ones _ (by omega)]; simp
  | succ i ih =>
    intro k hi hk
    obtain ⟨k, rfl⟩ : ∃ m, k = m + 1 := ⟨k - 1, by omega⟩
    simp only [varint_Get.l0]
    have e0 : ((i + 1 : Nat) : Int) - 1 = (i : Int) := by omega
    have e1 : wrap64 ((p : Int) + (i : Int)) = ((p + i : Nat) : Int) := by rw [wrap64_id (by omega) (by omega)]; omega
    have e2 : wrap64 ((i : Int) - 1) = (i : Int) - 1 := wrap64_id (by omega) (by omega)
    rw [e0, e1, e2, if_pos (by omega), if_pos (by omega), if_pos (by omega)]
    have hlt : i < (((L s).drop p).take n).length := by rw [List.length_take, List.length_drop]; omega
    have hd := val_drop (((L s).drop p).take n) i
    have ih := ih k (by omega) (by omega)
    rw [List.drop_eq_getElem_cons hlt] at hd ih
    have hb : bt s ((p + i : Nat) : Int) = (((((L s).drop p).take n)[i] : Nat) : Int) := by
      rw [bt_L, Int.toNat_natCast, List.getElem_take, List.getElem_drop, List.getD_eq_getElem?_getD, List.getElem?_eq_getElem (by omega)]; rfl
    have hb2 : (((L s).drop p).take n)[i] < 256 := L_lt s _ (List.mem_of_mem_drop (List.mem_of_mem_take (List.getElem_mem hlt)))
    rw [hb]
    clear hb
    generalize (((L s).drop p).take n)[i] = b at *
    simp only [val] at hd ih
    generalize val ((((L s).drop p).take n).drop (i + 1)) = u at *
    rw [u8and b hb2, wrap_u64_id (n := (u : Int) * 128) (by omega) (by omega), wrap_u64_id (n := ((b % 128 : Nat) : Int)) (by omega) (by omega)]
    rw [show (u : Int) * 128 = ((u * 128 : Nat) : Int) by omega, or64 _ _ (by omega) (by omega) (by omega)]
    rw [show u * 128 + b % 128 = b % 128 + 128 * u by omega]
    exact ih
theorem w_last (p j : Nat) (h : p + j ≤ 4611686018427387904) : wrap64 (wrap64 ((p : Int) + ((j + 1 : Nat) : Int)) - 1) = ((p + j : Nat) : Int) := by
  rw [wrap64_id (n := (p : Int) + ((j + 1 : Nat) : Int)) (by omega) (by omega), wrap64_id (by omega) (by omega)]; omega
theorem w_1p (n : Nat) (h : n ≤ 4611686018427387904) : wrap64 (1 + (n : Int)) = ((n + 1 : Nat) : Int) := by
  rw [wrap64_id (by omega) (by omega)]; omega
theorem w_p1 (n : Nat) (h : n ≤ 4611686018427387904) : wrap64 ((n : Int) + 1) = ((n + 1 : Nat) : Int) := by
  rw [wrap64_id (by omega) (by omega)]; omega
theorem w_m1 (n : Nat) (h : n ≤ 4611686018427387904) (h1 : 1 ≤ n) : wrap64 ((n : Int) - 1) = ((n - 1 : Nat) : Int) := by
  rw [wrap64_id (by omega) (by omega)]; omega
theorem w_add (n p : Nat) (h : n + p ≤ 4611686018427387904) : wrap64 ((n : Int) + (p : Int)) = ((n + p : Nat) : Int) := by
  rw [wrap64_id (by omega) (by omega)]; omega
theorem w_sub (n p : Nat) (h : n ≤ 4611686018427387904) (hp : p ≤ n) : wrap64 ((n : Int) - (p : Int)) = ((n - p : Nat) : Int) := by
  rw [wrap64_id (by omega) (by omega)]; omega
theorem w_one (m : Nat) (h : m ≤ 4611686018427387904) : wrap64 (((m + 1 : Nat) : Int) - 1) = ((m + 1 : Nat) : Int) - 1 := wrap64_id (by omega) (by omega)
theorem get_ev (s : ByteArray) (p : Nat) (hp : p ≤ s.size) (hs : s.size ≤ 4611686018427387904) : ∀ k, 20 ≤ k → varint_Get.f k s (p : Int) = some (getS ((L s).drop p) (p : Int)) := by
  intro k hk
  have hlen := L_len s
  obtain ⟨k, rfl⟩ : ∃ m, k = m + 3 := ⟨k - 3, by omega⟩
  unfold varint_Get.f
  rw [if_neg (by omega), decide_eq_false (by omega)]
  simp only [varint_Get.j0]
  rw [if_neg (by decide), if_pos (by omega), if_pos (by omega), ends_ev _ _ (by omega), L_extract, List.take_of_length_le (l := L s) (i := s.size) (by omega), Int.toNat_natCast]
  simp only [Option.bind_some]
  have hll : ((L s).drop p).length = s.size - p := by rw [List.length_drop, hlen]
  rw [w_sub s.size p hs hp]
  have hf := fin_le (((L s).drop p).take 10)
  rw [List.length_take, hll] at hf
  have hvb := val_bound ((L s).drop p)
  have hget : ∀ j, j < s.size - p → bt s (wrap64 (wrap64 ((p : Int) + ((j + 1 : Nat) : Int)) - 1)) = ((((L s).drop p).getD j 0 : Nat) : Int) ∧ 0 ≤ wrap64 (wrap64 ((p : Int) + ((j + 1 : Nat) : Int)) - 1) ∧ wrap64 (wrap64 ((p : Int) + ((j + 1 : Nat) : Int)) - 1) < (s.size : Int) := by
    intro j hj
    have q : p + j ≤ 4611686018427387904 := by omega
    rw [w_last p j q]
    refine ⟨?_, by omega, by omega⟩
    rw [bt_L, Int.toNat_natCast, List.getD_eq_getElem?_getD, List.getD_eq_getElem?_getD, List.getElem?_drop]
  have hbb : ∀ j, ((L s).drop p).getD j 0 < 256 := by
    intro j
    rw [List.getD_eq_getElem?_getD]
    by_cases c : j < ((L s).drop p).length
    · rw [List.getElem?_eq_getElem c]
      exact L_lt s _ (List.mem_of_mem_drop (List.getElem_mem c))
    · rw [List.getElem?_eq_none (by omega)]; simp
  unfold getS
  rw [hll]
  generalize hl : (L s).drop p = l at *
  generalize hn : fin (l.take 10) = n at *
  by_cases h0 : n = 0
  · subst h0
    rw [if_pos (show ((0 : Nat) : Int) = 0 from rfl)]
    simp only [varint_Get.j1]
    by_cases c : s.size - p < 10
    · have c' : ((s.size - p : Nat) : Int) < 10 := by omega
      rw [decide_eq_true c', if_pos (show true = true from rfl), if_pos True.intro, if_pos c]
    · have c' : ¬ ((s.size - p : Nat) : Int) < 10 := by omega
      rw [decide_eq_false c', if_neg (show ¬ false = true by decide), if_pos (show ((0 : Nat) : Int) = 0 from rfl), if_pos True.intro, if_neg c]
  · rw [if_neg (by omega), if_neg h0]
    simp only [varint_Get.j1]
    obtain ⟨m, rfl⟩ : ∃ m, n = m + 1 := ⟨n - 1, by omega⟩
    obtain ⟨g1, g2, g3⟩ := hget m (by omega)
    rw [if_neg (by decide), if_neg (by omega), g1, if_pos g2, if_pos g3, if_pos g2, if_pos g3]
    have hfin : (¬ ((m + 1 = 10 ∧ 1 < l.getD 9 0) ∨ (1 < m + 1 ∧ l.getD (m + 1 - 1) 0 = 0))) → varint_Get.j2 (k + 1) s (p : Int) ((m + 1 : Nat) : Int) = some (unzig (val (l.take (m + 1))), (p : Int) + ((m + 1 : Nat) : Int), 0) := by
      intro hc
      simp only [varint_Get.j2]
      have hv := hvb (by omega) hc
      have := get_l0 s p (m + 1) (by omega) (by omega) hs (by rw [hl]; exact hv) (m + 1) k (by omega) (by omega)
      rw [hl, List.drop_eq_nil_of_le (by rw [List.length_take]; omega)] at this
      simp only [val] at this
      rw [w_one m (by omega)]
      rw [show ((0 : Nat) : Int) = 0 from rfl] at this
      rw [this]
      congr 3
    have hm : m + 1 - 1 = m := by omega
    by_cases c1 : m + 1 = 10
    · obtain rfl : m = 9 := by omega
      rw [if_pos (by decide)]
      by_cases c2 : 1 < l.getD 9 0
      · rw [if_pos (by omega), if_pos (Or.inl ⟨rfl, c2⟩)]
      · rw [if_neg (by omega), if_pos (by decide)]
        by_cases c3 : l.getD 9 0 = 0
        · rw [if_pos (by omega), if_pos (Or.inr ⟨by omega, c3⟩)]
        · have hc : ¬ ((9 + 1 = 10 ∧ 1 < l.getD 9 0) ∨ (1 < 9 + 1 ∧ l.getD (9 + 1 - 1) 0 = 0)) := by
            show ¬ ((10 = 10 ∧ 1 < l.getD 9 0) ∨ (1 < 10 ∧ l.getD 9 0 = 0))
            omega
          rw [if_neg (by omega), hfin hc, if_neg hc]
    · rw [if_neg (by omega)]
      by_cases c2 : 1 < m + 1
      · rw [if_pos (by omega)]
        by_cases c3 : l.getD m 0 = 0
        · rw [if_pos (by omega), if_pos (Or.inr ⟨c2, c3⟩)]
        · rw [if_neg (by omega), hfin (by rw [hm]; omega), if_neg (by rw [hm]; omega)]
      · rw [if_neg (by omega), hfin (by omega), if_neg (by omega)]
theorem get_form (s : ByteArray) (p : Int) (h : p < 0 ∨ (s.size : Int) < p) : ∀ k, 1 ≤ k → varint_Get.f k s p = some (0, 0, 700) := by
  intro k hk
  obtain ⟨k, rfl⟩ : ∃ m, k = m + 1 := ⟨k - 1, by omega⟩
  unfold varint_Get.f
  by_cases c : p < 0
  · rw [if_pos c]; simp [varint_Get.j0]
  · rw [if_neg c, decide_eq_true (by omega)]; simp [varint_Get.j0]

/-! ### enc10 -/
def rng (x : Int) : Prop := -9223372036854775808 ≤ x ∧ x ≤ 9223372036854775807
def encs : List Int → List Nat
  | [] => []
  | x :: xs => enc (zig x) ++ encs xs
theorem S_L9 (b : ByteArray) : S (L b) = b := L_inj (L_S (L_lt b))
theorem all_l0 (xs : List Int) (hr : ∀ x ∈ xs, rng x) (hx : xs.length ≤ 100) (d : Nat) : ∀ (i k : Nat) (acc : ByteArray), xs.length - i = d → i ≤ xs.length → d + 12 ≤ k → acc.size + 10 * d ≤ 4611686018427387904 →
    varint_All.l0 k acc xs (xs.length : Int) (i : Int) = some (S (L acc ++ encs (xs.drop i))) := by
  induction d with
  | zero =>
    intro i k acc hd hi hk ha
    obtain ⟨k, rfl⟩ : ∃ m, k = m + 1 := ⟨k - 1, by omega⟩
    simp only [varint_All.l0]
    rw [if_neg (by omega), List.drop_eq_nil_of_le (by omega), encs, List.append_nil, S_L9]
  | succ d ih =>
    intro i k acc hd hi hk ha
    obtain ⟨k, rfl⟩ : ∃ m, k = m + 1 := ⟨k - 1, by omega⟩
    simp only [varint_All.l0]
    have hlt : i < xs.length := by omega
    have e : rd xs (i : Int) = xs[i] := by
      unfold rd; rw [Int.toNat_natCast, List.getD_eq_getElem?_getD, List.getElem?_eq_getElem hlt]; rfl
    have hx1 := hr xs[i] (List.getElem_mem hlt)
    have hp := L_put hx1.1 hx1.2
    have hz : (S (enc (zig xs[i]))).size ≤ 10 := by rw [← L_len, hp]; exact enc_len10 (zig_lt hx1.1 hx1.2)
    have hw : wrap64 ((i : Int) + 1) = ((i + 1 : Nat) : Int) := by rw [wrap64_id (by omega) (by omega)]; omega
    rw [if_pos (by omega), if_pos (by omega), if_pos (by omega), e, put_ev hx1.1 hx1.2 k (by omega), Option.bind_some, if_pos (by omega), hw,
      ih (i + 1) k _ (by omega) (by omega) (by omega) (by rw [ByteArray.size_append]; omega), L_append, hp, List.drop_eq_getElem_cons hlt, encs, List.append_assoc]
theorem all_ev (xs : List Int) (hr : ∀ x ∈ xs, rng x) (hx : xs.length ≤ 100) (k : Nat) (hk : xs.length + 12 ≤ k) : varint_All.f k xs = some (S (encs xs)) := by
  unfold varint_All.f
  have h := all_l0 xs hr hx xs.length 0 k (⟨#[]⟩ : ByteArray) (by omega) (by omega) hk (by show (0 : Nat) + 10 * xs.length ≤ _; omega)
  rw [show ((0 : Nat) : Int) = 0 from rfl, List.drop_zero, show L (⟨#[]⟩ : ByteArray) = [] by decide +kernel, List.nil_append] at h
  exact h
def numM (l : List Nat) (p : Int) (b : Bool) : Int × Int × Bool := if b = true then (0, p, true) else if (getS (l.drop p.toNat) p).2.2 = 0 then ((getS (l.drop p.toNat) p).1, (getS (l.drop p.toNat) p).2.1, false) else (0, p, true)
theorem num_ev (s : ByteArray) (hs : s.size ≤ 4611686018427387904) (p : Int) (b : Bool) (h0 : 0 ≤ p) (h1 : p ≤ s.size) (k : Nat) (hk : 20 ≤ k) :
    varint_Reader_Num.f k s p b = some ((numM (L s) p b).1, s, (numM (L s) p b).2.1, (numM (L s) p b).2.2) := by
  unfold varint_Reader_Num.f numM
  have h := get_ev s p.toNat (by omega) hs k hk
  rw [Int.toNat_of_nonneg h0] at h
  rw [h, Option.bind_some]
  cases b with
  | true => rfl
  | false =>
    simp only [Bool.false_eq_true, reduceIte]
    by_cases c : (getS ((L s).drop p.toNat) p).2.2 = 0
    · simp only [if_pos c]
    · simp only [if_neg c]
theorem num_rng (l : List Nat) (hb : ∀ y ∈ l, y < 256) (p : Int) (b : Bool) (h0 : 0 ≤ p) (h1 : p ≤ l.length) : 0 ≤ (numM l p b).2.1 ∧ (numM l p b).2.1 ≤ l.length := by
  unfold numM
  cases b with
  | true => exact ⟨h0, h1⟩
  | false =>
    simp only [Bool.false_eq_true, reduceIte]
    by_cases c : (getS (l.drop p.toNat) p).2.2 = 0
    · simp only [if_pos c]
      obtain ⟨u, r, hu, hl, hx, hq⟩ := getS_ok (fun y hy => hb y (List.mem_of_mem_drop hy)) (show getS (l.drop p.toNat) p = ((getS (l.drop p.toNat) p).1, (getS (l.drop p.toNat) p).2.1, 0) by rw [← c])
      have hlen := congrArg List.length hl
      rw [List.length_drop, List.length_append] at hlen
      show 0 ≤ (getS (l.drop p.toNat) p).2.1 ∧ (getS (l.drop p.toNat) p).2.1 ≤ l.length
      rw [hq]; omega
    · simp only [if_neg c]; exact ⟨h0, h1⟩
theorem zig_inj {x y : Int} (h : zig x = zig y) : x = y := by rw [← unzig_zig x, h, unzig_zig]
theorem enc1 {x y : Int} (hx : rng x) (hy : rng y) {r t : List Nat} (h : enc (zig x) ++ r = enc (zig y) ++ t) : x = y ∧ r = t := by
  have := enc_inj (zig_lt hx.1 hx.2) (zig_lt hy.1 hy.2) r t h
  exact ⟨zig_inj this.1, this.2⟩
theorem encs_lt : ∀ (xs : List Int), (∀ x ∈ xs, rng x) → ∀ b ∈ encs xs, b < 256
  | [], _, b, hb => by simp [encs] at hb
  | x :: xs, hx, b, hb => by
    simp only [encs, List.mem_append] at hb
    have h1 := hx x (by simp)
    rcases hb with hb | hb
    · exact enc_lt 10 _ (Nat.lt_of_lt_of_le (zig_lt h1.1 h1.2) (by decide)) b hb
    · exact encs_lt xs (fun z hz => hx z (by simp [hz])) b hb
theorem numM_true (l : List Nat) (p : Int) : numM l p true = (0, p, true) := rfl
theorem drop_add {l r t : List Nat} {p : Int} (h0 : 0 ≤ p) (h : l.drop p.toNat = t ++ r) : l.drop (p + (t.length : Int)).toNat = r := by
  have e : (p + (t.length : Int)).toNat = p.toNat + t.length := by omega
  rw [e, ← List.drop_drop, h, List.drop_left]
theorem numM_enc {l r : List Nat} {p x : Int} (hx : rng x) (h0 : 0 ≤ p) (h : l.drop p.toNat = enc (zig x) ++ r) : numM l p false = (x, p + ((enc (zig x)).length : Int), false) := by
  unfold numM
  simp only [Bool.false_eq_true, reduceIte]
  rw [h, getS_enc (zig_lt hx.1 hx.2), unzig_zig]
  rfl
theorem numM_inv {l : List Nat} (hb : ∀ y ∈ l, y < 256) {p : Int} {b : Bool} (h0 : 0 ≤ p) (h : (numM l p b).2.2 = false) :
    b = false ∧ rng (numM l p b).1 ∧ 0 ≤ (numM l p b).2.1 ∧ l.drop p.toNat = enc (zig (numM l p b).1) ++ l.drop (numM l p b).2.1.toNat := by
  cases b with
  | true => rw [numM_true] at h; exact absurd h (show ¬ (true = false) by decide)
  | false =>
    unfold numM at h ⊢
    simp only [Bool.false_eq_true, reduceIte] at h ⊢
    by_cases c : (getS (l.drop p.toNat) p).2.2 = 0
    · simp only [if_pos c] at h ⊢
      obtain ⟨u, r, hu, hl, hx, hq⟩ := getS_ok (fun y hy => hb y (List.mem_of_mem_drop hy)) (show getS (l.drop p.toNat) p = ((getS (l.drop p.toNat) p).1, (getS (l.drop p.toNat) p).2.1, 0) by rw [← c])
      have ur := unzig_range hu
      rw [hx, hq, zig_unzig]
      refine ⟨trivial, ur, by omega, ?_⟩
      rw [drop_add h0 hl]; exact hl
    · simp only [if_neg c] at h; exact absurd h (show ¬ (true = false) by decide)
theorem encs_pre : ∀ (xs ys : List Int) (r t : List Nat), (∀ x ∈ xs, rng x) → (∀ y ∈ ys, rng y) → xs.length = ys.length → encs xs ++ r = encs ys ++ t → xs = ys ∧ r = t
  | [], [], _, _, _, _, _, h => ⟨rfl, h⟩
  | [], _ :: _, _, _, _, _, h, _ => by simp at h
  | _ :: _, [], _, _, _, _, h, _ => by simp at h
  | x :: xs, y :: ys, r, t, hx, hy, hl, h => by
    simp only [encs, List.append_assoc] at h
    obtain ⟨e, h2⟩ := enc1 (hx x (by simp)) (hy y (by simp)) h
    subst e
    obtain ⟨e1, e2⟩ := encs_pre xs ys r t (fun z hz => hx z (by simp [hz])) (fun z hz => hy z (by simp [hz])) (by simpa using hl) h2
    exact ⟨by rw [e1], e2⟩
theorem encs_len : ∀ (xs : List Int), (∀ x ∈ xs, rng x) → (encs xs).length ≤ 10 * xs.length
  | [], _ => by simp [encs]
  | x :: xs, hx => by
    have h1 := hx x (by simp)
    have h2 := enc_len10 (zig_lt h1.1 h1.2)
    have h3 := encs_len xs (fun z hz => hx z (by simp [hz]))
    simp only [encs, List.length_append, List.length_cons]; omega

/-! ### rec10 -/
/-! a record as numbers, as bytes -/
def ovN (b : Bool) : Int := if b = true then 1 else 0
def rhead (r : RV) : List Int := if r.k = 0 then [r.k, r.q, r.s, r.st, r.en, r.v, ovN r.ov, (r.l.length : Int)] else if r.k = 1 ∨ r.k = 2 ∨ r.k = 3 then [r.k, r.se, r.ti, r.sq] else if r.k = 5 then [r.k, r.by_] else [r.k]
def rtl (r : RV) : List Int := if r.k = 0 then r.l else []
def rlist (r : RV) : List Int := (rhead r) ++ (rtl r)
def renc (r : RV) : List Nat := encs (rlist r)
theorem encs_app (a b : List Int) : encs (a ++ b) = encs a ++ encs b := by
  induction a with
  | nil => rfl
  | cons x a ih => simp only [List.cons_append, encs, ih, List.append_assoc]
theorem serB_iff {x : Int} : serB x = true ↔ (0 ≤ x ∧ x ≤ 1048575) := by unfold serB; rw [decide_eq_true_eq]
theorem spanB_iff {a b : Int} : spanB a b = true ↔ (-4398046511104 ≤ a ∧ b ≤ 4398046511104 ∧ a < b) := by unfold spanB; rw [decide_eq_true_eq]
theorem hB_iff {x : Int} : hB x = true ↔ (0 ≤ x ∧ x ≤ 8192) := by unfold hB; rw [decide_eq_true_eq]
theorem none_iff {q s st en v : Int} {ov : Bool} {l : List Int} : noneB q s st en v ov l = true ↔ (q = 0 ∧ s = 0 ∧ st = 0 ∧ en = 0 ∧ v = 0 ∧ ov = false ∧ l = []) := by
  unfold noneB
  simp only [Bool.and_eq_true, beq_iff_eq, Bool.not_eq_true']
  constructor
  · rintro ⟨a, b, ⟨c, d⟩, e, f, g⟩; exact ⟨a, b, c, d, e, f, List.eq_nil_of_length_eq_zero (by omega)⟩
  · rintro ⟨a, b, c, d, e, f, rfl⟩; exact ⟨a, b, ⟨c, d⟩, e, f, rfl⟩
theorem bare_iff {a b c : Int} : bareB a b c = true ↔ (a = 0 ∧ b = 0 ∧ c = 0) := by
  unfold bareB; simp only [Bool.and_eq_true, beq_iff_eq]
theorem ref_iff {a b c : Int} : refB a b c = true ↔ (0 ≤ a ∧ a ≤ 1048575 ∧ -1099511627776 ≤ b ∧ b ≤ 1099511627776 ∧ 1 ≤ c ∧ c ≤ 1073741823) := by
  unfold refB; simp only [Bool.and_eq_true, decide_eq_true_eq, serB_iff]; omega
theorem res_iff {q s st en v : Int} {ov : Bool} {l : List Int} : resB q s st en v ov l = true ↔ (0 ≤ q ∧ q < 8 ∧ 0 ≤ s ∧ s ≤ 1048575 ∧ -4398046511104 ≤ st ∧ en ≤ 4398046511104 ∧ st < en ∧ -72057594037927940 ≤ v ∧ v ≤ 72057594037927940 ∧ (ov = false ∨ v = 0) ∧ l.length ≤ 9 ∧ ∀ x ∈ l, 0 ≤ x ∧ x ≤ 8192) := by
  unfold resB outB
  simp only [Bool.and_eq_true, decide_eq_true_eq, serB_iff, spanB_iff, Bool.or_eq_true, Bool.not_eq_true', beq_iff_eq, List.all_eq_true, hB_iff]
  constructor
  · rintro ⟨a, b, ⟨c, d⟩, ⟨e, f, g⟩, h, i, j, k, m⟩; exact ⟨a, b, c, d, e, f, g, h, i, j, by omega, m⟩
  · rintro ⟨a, b, c, d, e, f, g, h, i, j, k, m⟩; exact ⟨a, b, ⟨c, d⟩, ⟨e, f, g⟩, h, i, j, by omega, m⟩
/-- What a record that may be looks like. -/
theorem ok_cases {r : RV} (h : r.ok = true) :
    (r.k = 0 ∧ 0 ≤ r.q ∧ r.q < 8 ∧ 0 ≤ r.s ∧ r.s ≤ 1048575 ∧ -4398046511104 ≤ r.st ∧ r.en ≤ 4398046511104 ∧ r.st < r.en ∧ -72057594037927940 ≤ r.v ∧ r.v ≤ 72057594037927940 ∧ (r.ov = false ∨ r.v = 0) ∧ r.l.length ≤ 9 ∧ (∀ x ∈ r.l, 0 ≤ x ∧ x ≤ 8192) ∧ r.se = 0 ∧ r.ti = 0 ∧ r.sq = 0 ∧ r.by_ = 0) ∨
    ((r.k = 1 ∨ r.k = 2 ∨ r.k = 3) ∧ r.q = 0 ∧ r.s = 0 ∧ r.st = 0 ∧ r.en = 0 ∧ r.v = 0 ∧ r.ov = false ∧ r.l = [] ∧ 0 ≤ r.se ∧ r.se ≤ 1048575 ∧ -1099511627776 ≤ r.ti ∧ r.ti ≤ 1099511627776 ∧ 1 ≤ r.sq ∧ r.sq ≤ 1073741823 ∧ r.by_ = 0) ∨
    (r.k = 4 ∧ r.q = 0 ∧ r.s = 0 ∧ r.st = 0 ∧ r.en = 0 ∧ r.v = 0 ∧ r.ov = false ∧ r.l = [] ∧ r.se = 0 ∧ r.ti = 0 ∧ r.sq = 0 ∧ r.by_ = 0) ∨
    (r.k = 5 ∧ r.q = 0 ∧ r.s = 0 ∧ r.st = 0 ∧ r.en = 0 ∧ r.v = 0 ∧ r.ov = false ∧ r.l = [] ∧ r.se = 0 ∧ r.ti = 0 ∧ r.sq = 0 ∧ 1 ≤ r.by_ ∧ r.by_ ≤ 1073741823) := by
  unfold RV.ok recB at h
  by_cases k0 : r.k = 0
  · rw [if_pos k0] at h
    simp only [Bool.and_eq_true, res_iff, bare_iff, beq_iff_eq] at h
    obtain ⟨⟨a, b, c, d, e, f, g, h1, i, j, k, m⟩, ⟨n, o, p⟩, q⟩ := h
    exact .inl ⟨k0, a, b, c, d, e, f, g, h1, i, j, k, m, n, o, p, q⟩
  · rw [if_neg k0] at h
    by_cases k1 : r.k = 1 ∨ r.k = 2 ∨ r.k = 3
    · rw [if_pos k1] at h
      simp only [Bool.and_eq_true, none_iff, ref_iff, beq_iff_eq] at h
      obtain ⟨⟨a, b, c, d, e, f, g⟩, ⟨n, o, p, q, s, t⟩, u⟩ := h
      exact .inr (.inl ⟨k1, a, b, c, d, e, f, g, n, o, p, q, s, t, u⟩)
    · rw [if_neg k1] at h
      by_cases k4 : r.k = 4
      · rw [if_pos k4] at h
        simp only [Bool.and_eq_true, none_iff, bare_iff, beq_iff_eq] at h
        obtain ⟨⟨a, b, c, d, e, f, g⟩, ⟨n, o, p⟩, u⟩ := h
        exact .inr (.inr (.inl ⟨k4, a, b, c, d, e, f, g, n, o, p, u⟩))
      · rw [if_neg k4] at h
        by_cases k5 : r.k = 5
        · rw [if_pos k5] at h
          simp only [Bool.and_eq_true, none_iff, bare_iff, decide_eq_true_eq] at h
          obtain ⟨⟨a, b, c, d, e, f, g⟩, ⟨n, o, p⟩, u, v⟩ := h
          exact .inr (.inr (.inr ⟨k5, a, b, c, d, e, f, g, n, o, p, u, v⟩))
        · rw [if_neg k5] at h; cases h
theorem ovN_rng (b : Bool) : ovN b = 0 ∨ ovN b = 1 := by cases b <;> simp [ovN]
theorem ok_rng {r : RV} (h : r.ok = true) : ∀ x ∈ (rlist r), rng x := by
  intro x hx
  have hov := ovN_rng r.ov
  unfold rlist rhead rtl at hx
  rcases ok_cases h with c | c | c | c
  · rw [if_pos c.1, if_pos c.1] at hx
    simp only [List.mem_append, List.mem_cons, List.not_mem_nil, or_false] at hx
    rcases hx with hx | hx
    · unfold rng; omega
    · have := c.2.2.2.2.2.2.2.2.2.2.2.2.1 x hx; unfold rng; omega
  · rw [if_neg (by omega), if_pos c.1, if_neg (by omega)] at hx
    simp only [List.mem_append, List.mem_cons, List.not_mem_nil, or_false] at hx
    unfold rng; omega
  · rw [if_neg (by omega), if_neg (by omega), if_neg (by omega), if_neg (by omega)] at hx
    simp only [List.mem_append, List.mem_cons, List.not_mem_nil, or_false] at hx
    unfold rng; omega
  · rw [if_neg (by omega), if_neg (by omega), if_pos c.1, if_neg (by omega)] at hx
    simp only [List.mem_append, List.mem_cons, List.not_mem_nil, or_false] at hx
    unfold rng; omega
theorem L_renc {r : RV} (h : r.ok = true) : L (S (renc r)) = (renc r) := L_S (encs_lt _ (ok_rng h))
theorem z_le {x : Int} {n : Nat} (h1 : -(n : Int) ≤ x) (h2 : x ≤ n) : zig x ≤ 2 * n := by
  unfold zig; split <;> omega
/-- A record that may be fits into a frame's body. -/
theorem ok_len {r : RV} (h : r.ok = true) : 1 ≤ (renc r).length ∧ (renc r).length ≤ 60 := by
  have E1 : ∀ {x : Int}, -63 ≤ x → x ≤ 63 → (enc (zig x)).length ≤ 1 := fun a b => enc_le 0 _ (Nat.lt_of_le_of_lt (z_le (n := 63) (by omega) (by omega)) (by decide))
  have E3 : ∀ {x : Int}, -1048575 ≤ x → x ≤ 1048575 → (enc (zig x)).length ≤ 3 := fun a b => enc_le 2 _ (Nat.lt_of_le_of_lt (z_le (n := 1048575) (by omega) (by omega)) (by decide))
  have E5 : ∀ {x : Int}, -1073741823 ≤ x → x ≤ 1073741823 → (enc (zig x)).length ≤ 5 := fun a b => enc_le 4 _ (Nat.lt_of_le_of_lt (z_le (n := 1073741823) (by omega) (by omega)) (by decide))
  have E7 : ∀ {x : Int}, -4398046511104 ≤ x → x ≤ 4398046511104 → (enc (zig x)).length ≤ 7 := fun a b => enc_le 6 _ (Nat.lt_of_le_of_lt (z_le (n := 4398046511104) (by omega) (by omega)) (by decide))
  have E9 : ∀ {x : Int}, -72057594037927940 ≤ x → x ≤ 72057594037927940 → (enc (zig x)).length ≤ 9 := fun a b => enc_le 8 _ (Nat.lt_of_le_of_lt (z_le (n := 72057594037927940) (by omega) (by omega)) (by decide))
  have H : ∀ l : List Int, (∀ x ∈ l, 0 ≤ x ∧ x ≤ 8192) → (encs l).length ≤ 3 * l.length := by
    intro l
    induction l with
    | nil => intro _; simp [encs]
    | cons x l ih =>
      intro hx
      have h1 := hx x (by simp)
      have h2 := E3 (x := x) (by omega) (by omega)
      have h3 := ih (fun z hz => hx z (by simp [hz]))
      simp only [encs, List.length_append, List.length_cons]; omega
  have hov := ovN_rng r.ov
  have P := enc_pos (zig r.k)
  unfold renc rlist
  rw [encs_app, List.length_append]
  unfold rhead rtl
  rcases ok_cases h with c | c | c | c
  · rw [if_pos c.1, if_pos c.1]
    have hl := H r.l c.2.2.2.2.2.2.2.2.2.2.2.2.1
    have e0 := E1 (x := r.k) (by omega) (by omega)
    have e1 := E1 (x := r.q) (by omega) (by omega)
    have e2 := E3 (x := r.s) (by omega) (by omega)
    have e3 := E7 (x := r.st) (by omega) (by omega)
    have e4 := E7 (x := r.en) (by omega) (by omega)
    have e5 := E9 (x := r.v) (by omega) (by omega)
    have e6 := E1 (x := ovN r.ov) (by omega) (by omega)
    have e7 := E1 (x := (r.l.length : Int)) (by omega) (by omega)
    simp only [encs, List.length_append, List.length_nil]; omega
  · rw [if_neg (by omega), if_pos c.1, if_neg (by omega)]
    have e0 := E1 (x := r.k) (by omega) (by omega)
    have e1 := E3 (x := r.se) (by omega) (by omega)
    have e2 := E7 (x := r.ti) (by omega) (by omega)
    have e3 := E5 (x := r.sq) (by omega) (by omega)
    simp only [encs, List.length_append, List.length_nil]; omega
  · rw [if_neg (by omega), if_neg (by omega), if_neg (by omega), if_neg (by omega)]
    have e0 := E1 (x := r.k) (by omega) (by omega)
    simp only [encs, List.length_append, List.length_nil]; omega
  · rw [if_neg (by omega), if_neg (by omega), if_pos c.1, if_neg (by omega)]
    have e0 := E1 (x := r.k) (by omega) (by omega)
    have e1 := E5 (x := r.by_) (by omega) (by omega)
    simp only [encs, List.length_append, List.length_nil]; omega
/-- No record's bytes begin another's. -/
theorem renc_pre {a b : RV} (ha : a.ok = true) (hb : b.ok = true) {x t : List Nat} (h : (renc a) ++ x = (renc b) ++ t) : a = b ∧ x = t := by
  have ra := ok_rng ha
  have rb := ok_rng hb
  have ca := ok_cases ha
  have cb := ok_cases hb
  unfold renc rlist at h
  unfold rlist at ra rb
  have hk : a.k = b.k := by
    have ea : ∃ z, (rhead a) = a.k :: z := by
      unfold rhead; repeat' split
      all_goals exact ⟨_, rfl⟩
    have eb : ∃ z, (rhead b) = b.k :: z := by
      unfold rhead; repeat' split
      all_goals exact ⟨_, rfl⟩
    obtain ⟨za, ea⟩ := ea
    obtain ⟨zb, eb⟩ := eb
    rw [ea] at h ra; rw [eb] at h rb
    simp only [List.cons_append, encs, List.append_assoc] at h
    exact (enc1 (ra a.k (by simp)) (rb b.k (by simp)) h).1
  rw [encs_app, encs_app, List.append_assoc, List.append_assoc] at h
  have hlen : (rhead a).length = (rhead b).length := by
    unfold rhead; rw [hk]
    repeat' split
    all_goals rfl
  obtain ⟨e1, h2⟩ := encs_pre _ _ _ _ (fun z hz => ra z (by simp [hz])) (fun z hz => rb z (by simp [hz])) hlen h
  have ov : ∀ {p q : Bool}, ovN p = ovN q → p = q := by intro p q e; cases p <;> cases q <;> simp [ovN] at e ⊢
  obtain ⟨ak, aq, as_, ast, aen, av, aov, al, ase, ati, asq, aby⟩ := a
  obtain ⟨bk, bq, bs, bst, ben, bv, bov, bl, bse, bti, bsq, bby⟩ := b
  dsimp only at *
  subst hk
  unfold rhead at e1
  unfold rtl at h2
  dsimp only at e1 h2
  rcases ca with c | c | c | c
  · rw [if_pos c.1, if_pos c.1] at e1
    rw [if_pos c.1, if_pos c.1] at h2
    simp only [List.cons.injEq, and_true, true_and] at e1
    obtain ⟨e2, e3, e4, e5, e6, e7, e8⟩ := e1
    have c2 : _ := cb.resolve_right (by omega)
    obtain ⟨e9, h3⟩ := encs_pre al bl _ _ (fun z hz => ra z (by simp [rtl, c.1, hz])) (fun z hz => rb z (by simp [rtl, c.1, hz])) (by omega) h2
    have e10 := ov e7
    obtain ⟨_, _, _, _, _, _, _, _, _, _, _, _, _, p1, p2, p3, p4⟩ := c
    obtain ⟨_, _, _, _, _, _, _, _, _, _, _, _, _, q1, q2, q3, q4⟩ := c2
    subst e2 e3 e4 e5 e6 e9 e10
    rw [p1, p2, p3, p4, q1, q2, q3, q4]
    exact ⟨rfl, h3⟩
  · rw [if_neg (by omega), if_pos c.1, if_neg (by omega), if_pos c.1] at e1
    rw [if_neg (by omega), if_neg (by omega)] at h2
    simp only [List.cons.injEq, and_true, true_and] at e1
    have c2 : _ := (cb.resolve_left (by omega)).resolve_right (by omega)
    obtain ⟨_, p1, p2, p3, p4, p5, p6, p7, _, _, _, _, _, _, p8⟩ := c
    obtain ⟨_, q1, q2, q3, q4, q5, q6, q7, _, _, _, _, _, _, q8⟩ := c2
    rw [p1, p2, p3, p4, p5, p6, p7, p8, q1, q2, q3, q4, q5, q6, q7, q8, e1.1, e1.2.1, e1.2.2]
    exact ⟨rfl, h2⟩
  · rw [if_neg (by omega), if_neg (by omega)] at h2
    have c2 : _ := ((cb.resolve_left (by omega)).resolve_left (by omega)).resolve_right (by omega)
    obtain ⟨_, p1, p2, p3, p4, p5, p6, p7, p8, p9, p10, p11⟩ := c
    obtain ⟨_, q1, q2, q3, q4, q5, q6, q7, q8, q9, q10, q11⟩ := c2
    rw [p1, p2, p3, p4, p5, p6, p7, p8, p9, p10, p11, q1, q2, q3, q4, q5, q6, q7, q8, q9, q10, q11]
    exact ⟨rfl, h2⟩
  · rw [if_neg (by omega), if_neg (by omega), if_pos c.1, if_neg (by omega), if_neg (by omega), if_pos c.1] at e1
    rw [if_neg (by omega), if_neg (by omega)] at h2
    simp only [List.cons.injEq, and_true, true_and] at e1
    have c2 : _ := ((cb.resolve_left (by omega)).resolve_left (by omega)).resolve_left (by omega)
    obtain ⟨_, p1, p2, p3, p4, p5, p6, p7, p8, p9, p10, _, _⟩ := c
    obtain ⟨_, q1, q2, q3, q4, q5, q6, q7, q8, q9, q10, _, _⟩ := c2
    rw [p1, p2, p3, p4, p5, p6, p7, p8, p9, p10, q1, q2, q3, q4, q5, q6, q7, q8, q9, q10, e1]
    exact ⟨rfl, h2⟩

/-! ### get10 -/
/-! the reader of records, on lists -/
def readN (l : List Nat) : Nat → Int → Bool → List Int × Int × Bool
  | 0, p, b => ([], p, b)
  | n + 1, p, b => ((numM l p b).1 :: (readN l n (numM l p b).2.1 (numM l p b).2.2).1, (readN l n (numM l p b).2.1 (numM l p b).2.2).2)
def numsM (l : List Nat) (p : Int) (b : Bool) : List Int × Int × Bool :=
  if (numM l p b).2.2 = true ∨ (numM l p b).1 < 0 ∨ 9 < (numM l p b).1 then ([], (numM l p b).2.1, true) else readN l (numM l p b).1.toNat (numM l p b).2.1 false
def rawR (l : List Nat) : RV × Int × Bool :=
  let t0 := numM l 0 false
  if t0.1 = 0 then
    let t1 := numM l t0.2.1 t0.2.2
    let t2 := numM l t1.2.1 t1.2.2
    let t3 := numM l t2.2.1 t2.2.2
    let t4 := numM l t3.2.1 t3.2.2
    let t5 := numM l t4.2.1 t4.2.2
    let t6 := numM l t5.2.1 t5.2.2
    let u := numsM l t6.2.1 (t6.2.2 || (decide (t6.1 < 0) || decide (t6.1 > 1)))
    (⟨0, t1.1, t2.1, t3.1, t4.1, t5.1, t6.1 == 1, u.1, 0, 0, 0, 0⟩, u.2)
  else if t0.1 = 1 ∨ t0.1 = 2 ∨ t0.1 = 3 then
    let t1 := numM l t0.2.1 t0.2.2
    let t2 := numM l t1.2.1 t1.2.2
    let t3 := numM l t2.2.1 t2.2.2
    (⟨t0.1, 0, 0, 0, 0, 0, false, [], t1.1, t2.1, t3.1, 0⟩, t3.2)
  else if t0.1 = 5 then
    let t1 := numM l t0.2.1 t0.2.2
    (⟨5, 0, 0, 0, 0, 0, false, [], 0, 0, 0, t1.1⟩, t1.2)
  else (⟨t0.1, 0, 0, 0, 0, 0, false, [], 0, 0, 0, 0⟩, t0.2)
def getR (l : List Nat) : RV × Int := if (rawR l).2.2 = false ∧ (rawR l).2.1 = l.length ∧ (rawR l).1.ok = true then ((rawR l).1, 0) else (RV.z, 1000)
theorem readN_enc {l : List Nat} : ∀ (xs : List Int) (r : List Nat) (p : Int), (∀ x ∈ xs, rng x) → 0 ≤ p → l.drop p.toNat = encs xs ++ r → readN l xs.length p false = (xs, p + ((encs xs).length : Int), false)
  | [], r, p, _, _, _ => by simp [readN, encs]
  | x :: xs, r, p, hx, h0, h => by
    simp only [encs, List.append_assoc] at h
    have e := numM_enc (hx x (by simp)) h0 h
    have d := drop_add h0 h
    have ih := readN_enc xs r _ (fun z hz => hx z (by simp [hz])) (by omega) d
    show ((numM l p false).1 :: (readN l xs.length (numM l p false).2.1 (numM l p false).2.2).1, (readN l xs.length (numM l p false).2.1 (numM l p false).2.2).2) = _
    rw [e]
    dsimp only
    rw [ih]
    simp only [encs, List.length_append, Prod.mk.injEq, true_and, and_true]
    omega
theorem readN_len (l : List Nat) : ∀ (n : Nat) (p : Int) (b : Bool), (readN l n p b).1.length = n
  | 0, _, _ => rfl
  | n + 1, p, b => by simp only [readN, List.length_cons, readN_len l n]
theorem readN_inv {l : List Nat} (hb : ∀ y ∈ l, y < 256) : ∀ (n : Nat) (p : Int) (b : Bool), 0 ≤ p → (readN l n p b).2.2 = false →
    b = false ∧ 0 ≤ (readN l n p b).2.1 ∧ l.drop p.toNat = encs (readN l n p b).1 ++ l.drop (readN l n p b).2.1.toNat
  | 0, p, b, h0, h => ⟨h, h0, rfl⟩
  | n + 1, p, b, h0, h => by
    have h : (readN l n (numM l p b).2.1 (numM l p b).2.2).2.2 = false := h
    have hq : 0 ≤ (numM l p b).2.1 := by
      by_cases c : (numM l p b).2.2 = false
      · exact (numM_inv hb h0 c).2.2.1
      · have c : (numM l p b).2.2 = true := by simpa using c
        unfold numM at c ⊢
        cases b with
        | true => exact h0
        | false =>
          simp only [Bool.false_eq_true, reduceIte] at c ⊢
          by_cases e : (getS (l.drop p.toNat) p).2.2 = 0
          · simp only [if_pos e] at c; cases c
          · simp only [if_neg e]; exact h0
    have i := readN_inv hb n _ _ hq h
    have j := numM_inv hb h0 i.1
    refine ⟨j.1, i.2.1, ?_⟩
    show l.drop p.toNat = encs ((numM l p b).1 :: (readN l n (numM l p b).2.1 (numM l p b).2.2).1) ++ l.drop (readN l n (numM l p b).2.1 (numM l p b).2.2).2.1.toNat
    rw [j.2.2.2, i.2.2]
    simp only [encs, List.append_assoc]
theorem ovN_eq (b : Bool) : (ovN b == 1) = b := by cases b <;> rfl
theorem raw_renc {r : RV} (h : r.ok = true) : rawR (renc r) = (r, ((renc r).length : Int), false) := by
  have hr := ok_rng h
  have hov := ovN_rng r.ov
  have c := ok_cases h
  have ol : (renc r) = encs ((rhead r) ++ (rtl r)) := rfl
  unfold rlist at hr
  unfold rawR
  rcases c with c | c | c | c
  · have e : (renc r) = enc (zig r.k) ++ (enc (zig r.q) ++ (enc (zig r.s) ++ (enc (zig r.st) ++ (enc (zig r.en) ++ (enc (zig r.v) ++ (enc (zig (ovN r.ov)) ++ (enc (zig (r.l.length : Int)) ++ (encs r.l ++ [])))))))) := by
      rw [ol]; unfold rhead rtl; rw [if_pos c.1, if_pos c.1]; simp only [List.cons_append, List.nil_append, encs, List.append_nil]
    unfold rhead rtl at hr
    rw [if_pos c.1, if_pos c.1] at hr
    have hl : ∀ x ∈ r.l, rng x := fun x hx => hr x (by simp [hx])
    generalize (renc r) = l at e
    have d0 : l.drop (0 : Int).toNat = _ := e
    have l0 := congrArg List.length e
    simp only [List.length_append, List.length_nil] at l0
    have d1 := drop_add (by omega) d0
    have d2 := drop_add (by omega) d1
    have d3 := drop_add (by omega) d2
    have d4 := drop_add (by omega) d3
    have d5 := drop_add (by omega) d4
    have d6 := drop_add (by omega) d5
    have d7 := drop_add (by omega) d6
    have d8 := drop_add (by omega) d7
    dsimp only
    rw [numM_enc (hr r.k (by simp)) (by omega) d0]
    dsimp only
    rw [if_pos c.1, numM_enc (hr r.q (by simp)) (by omega) d1]
    dsimp only
    rw [numM_enc (hr r.s (by simp)) (by omega) d2]
    dsimp only
    rw [numM_enc (hr r.st (by simp)) (by omega) d3]
    dsimp only
    rw [numM_enc (hr r.en (by simp)) (by omega) d4]
    dsimp only
    rw [numM_enc (hr r.v (by simp)) (by omega) d5]
    dsimp only
    rw [numM_enc (hr (ovN r.ov) (by simp)) (by omega) d6]
    dsimp only
    rw [decide_eq_false (show ¬ ovN r.ov < 0 by omega), decide_eq_false (show ¬ ovN r.ov > 1 by omega)]
    unfold numsM
    simp only [Bool.or_false]
    rw [numM_enc (hr (r.l.length : Int) (by simp)) (by omega) d7]
    dsimp only
    rw [if_neg (by rintro (z | z | z) <;> first | cases z | omega), Int.toNat_natCast, readN_enc r.l [] _ hl (by omega) d8, ovN_eq]
    obtain ⟨rk, rq, rs, rst, ren, rv, rov, rl, rse, rti, rsq, rby⟩ := r
    dsimp only at *
    obtain ⟨c0, _, _, _, _, _, _, _, _, _, _, _, _, p1, p2, p3, p4⟩ := c
    subst c0 p1 p2 p3 p4
    simp only [Prod.mk.injEq, true_and, and_true]
    omega
  · have e : (renc r) = enc (zig r.k) ++ (enc (zig r.se) ++ (enc (zig r.ti) ++ (enc (zig r.sq) ++ []))) := by
      rw [ol]; unfold rhead rtl; rw [if_neg (by omega), if_pos c.1, if_neg (by omega)]; simp only [List.append_nil, encs]
    unfold rhead rtl at hr
    rw [if_neg (by omega), if_pos c.1, if_neg (by omega)] at hr
    generalize (renc r) = l at e
    have d0 : l.drop (0 : Int).toNat = _ := e
    have l0 := congrArg List.length e
    simp only [List.length_append, List.length_nil] at l0
    have d1 := drop_add (by omega) d0
    have d2 := drop_add (by omega) d1
    have d3 := drop_add (by omega) d2
    dsimp only
    rw [numM_enc (hr r.k (by simp)) (by omega) d0]
    dsimp only
    rw [if_neg (by omega), if_pos c.1, numM_enc (hr r.se (by simp)) (by omega) d1]
    dsimp only
    rw [numM_enc (hr r.ti (by simp)) (by omega) d2]
    dsimp only
    rw [numM_enc (hr r.sq (by simp)) (by omega) d3]
    obtain ⟨rk, rq, rs, rst, ren, rv, rov, rl, rse, rti, rsq, rby⟩ := r
    dsimp only at *
    obtain ⟨_, p1, p2, p3, p4, p5, p6, p7, _, _, _, _, _, _, p8⟩ := c
    rw [p1, p2, p3, p4, p5, p6, p7, p8]
    simp only [Prod.mk.injEq, true_and, and_true]
    omega
  · have e : (renc r) = enc (zig r.k) ++ [] := by
      rw [ol]; unfold rhead rtl; rw [if_neg (by omega), if_neg (by omega), if_neg (by omega), if_neg (by omega)]; simp only [List.append_nil, encs]
    unfold rhead rtl at hr
    rw [if_neg (by omega), if_neg (by omega), if_neg (by omega), if_neg (by omega)] at hr
    generalize (renc r) = l at e
    have d0 : l.drop (0 : Int).toNat = _ := e
    have l0 := congrArg List.length e
    simp only [List.length_append, List.length_nil] at l0
    dsimp only
    rw [numM_enc (hr r.k (by simp)) (by omega) d0]
    dsimp only
    rw [if_neg (by omega), if_neg (by omega), if_neg (by omega)]
    obtain ⟨rk, rq, rs, rst, ren, rv, rov, rl, rse, rti, rsq, rby⟩ := r
    dsimp only at *
    obtain ⟨_, p1, p2, p3, p4, p5, p6, p7, p8, p9, p10, p11⟩ := c
    rw [p1, p2, p3, p4, p5, p6, p7, p8, p9, p10, p11]
    simp only [Prod.mk.injEq, true_and, and_true]
    omega
  · have e : (renc r) = enc (zig r.k) ++ (enc (zig r.by_) ++ []) := by
      rw [ol]; unfold rhead rtl; rw [if_neg (by omega), if_neg (by omega), if_pos c.1, if_neg (by omega)]; simp only [List.append_nil, encs]
    unfold rhead rtl at hr
    rw [if_neg (by omega), if_neg (by omega), if_pos c.1, if_neg (by omega)] at hr
    generalize (renc r) = l at e
    have d0 : l.drop (0 : Int).toNat = _ := e
    have l0 := congrArg List.length e
    simp only [List.length_append, List.length_nil] at l0
    have d1 := drop_add (by omega) d0
    dsimp only
    rw [numM_enc (hr r.k (by simp)) (by omega) d0]
    dsimp only
    rw [if_neg (by omega), if_neg (by omega), if_pos c.1, numM_enc (hr r.by_ (by simp)) (by omega) d1]
    obtain ⟨rk, rq, rs, rst, ren, rv, rov, rl, rse, rti, rsq, rby⟩ := r
    dsimp only at *
    obtain ⟨p0, p1, p2, p3, p4, p5, p6, p7, p8, p9, p10, _, _⟩ := c
    subst p0 p1 p2 p3 p4 p5 p6 p7 p8 p9 p10
    simp only [Prod.mk.injEq, true_and, and_true]
    omega
theorem getR_enc {r : RV} (h : r.ok = true) : getR (renc r) = (r, 0) := by
  unfold getR
  rw [raw_renc h]
  dsimp only
  rw [if_pos ⟨rfl, rfl, h⟩]
theorem numM_bad {l : List Nat} {p : Int} {b : Bool} (h : (numM l p b).2.2 = false) : b = false := by
  cases b with
  | true => rw [numM_true] at h; exact h
  | false => rfl
theorem numsM_inv {l : List Nat} (hb : ∀ y ∈ l, y < 256) {p : Int} {b : Bool} (h0 : 0 ≤ p) (h : (numsM l p b).2.2 = false) :
    b = false ∧ l.drop p.toNat = enc (zig ((numsM l p b).1.length : Int)) ++ (encs (numsM l p b).1 ++ l.drop (numsM l p b).2.1.toNat) := by
  unfold numsM at h ⊢
  by_cases c : (numM l p b).2.2 = true ∨ (numM l p b).1 < 0 ∨ 9 < (numM l p b).1
  · rw [if_pos c] at h; cases h
  · rw [if_neg c] at h ⊢
    have c1 : (numM l p b).2.2 = false := by
      cases z : (numM l p b).2.2 with
      | true => exact absurd (.inl z) c
      | false => rfl
    have c2 : 0 ≤ (numM l p b).1 := by
      rcases (show (numM l p b).1 < 0 ∨ 0 ≤ (numM l p b).1 by omega) with z | z
      · exact absurd (.inr (.inl z)) c
      · exact z
    have j := numM_inv hb h0 c1
    have i := readN_inv hb (numM l p b).1.toNat (numM l p b).2.1 false j.2.2.1 h
    refine ⟨j.1, ?_⟩
    rw [readN_len, Int.toNat_of_nonneg c2, ← i.2.2]
    exact j.2.2.2
theorem raw_rinv {l : List Nat} (hb : ∀ y ∈ l, y < 256) (h1 : (rawR l).2.2 = false) (h2 : (rawR l).2.1 = l.length) : l = renc (rawR l).1 := by
  have hd : ∀ q : Int, q = l.length → l.drop q.toNat = [] := fun q hq => List.drop_eq_nil_of_le (by omega)
  unfold renc rlist rhead rtl
  unfold rawR at h1 h2 ⊢
  dsimp only at h1 h2 ⊢
  have z0 := fun z => numM_inv hb (p := 0) (b := false) (by omega) z
  by_cases c : (numM l 0 false).1 = 0
  · simp only [if_pos c] at h1 h2 ⊢
    generalize hT0 : numM l 0 false = t0 at *
    generalize hT1 : numM l t0.2.1 t0.2.2 = t1 at *
    generalize hT2 : numM l t1.2.1 t1.2.2 = t2 at *
    generalize hT3 : numM l t2.2.1 t2.2.2 = t3 at *
    generalize hT4 : numM l t3.2.1 t3.2.2 = t4 at *
    generalize hT5 : numM l t4.2.1 t4.2.2 = t5 at *
    generalize hT6 : numM l t5.2.1 t5.2.2 = t6 at *
    have b6 : (t6.2.2 || (decide (t6.1 < 0) || decide (t6.1 > 1))) = false := by
      cases hz : (t6.2.2 || (decide (t6.1 < 0) || decide (t6.1 > 1))) with
      | false => rfl
      | true =>
        rw [hz] at h1
        unfold numsM at h1
        rw [if_pos (.inl (by rw [numM_true]))] at h1
        cases h1
    rw [b6] at h1 h2 ⊢
    simp only [Bool.or_eq_false_iff, decide_eq_false_iff_not] at b6
    have b5 := numM_bad (by rw [hT6]; exact b6.1)
    have b4 := numM_bad (by rw [hT5]; exact b5)
    have b3 := numM_bad (by rw [hT4]; exact b4)
    have b2 := numM_bad (by rw [hT3]; exact b3)
    have b1 := numM_bad (by rw [hT2]; exact b2)
    have b0 := numM_bad (by rw [hT1]; exact b1)
    have i0 := z0 b0
    have i1 := numM_inv hb (p := t0.2.1) (b := t0.2.2) i0.2.2.1 (by rw [hT1]; exact b1)
    rw [hT1] at i1
    have i2 := numM_inv hb (p := t1.2.1) (b := t1.2.2) i1.2.2.1 (by rw [hT2]; exact b2)
    rw [hT2] at i2
    have i3 := numM_inv hb (p := t2.2.1) (b := t2.2.2) i2.2.2.1 (by rw [hT3]; exact b3)
    rw [hT3] at i3
    have i4 := numM_inv hb (p := t3.2.1) (b := t3.2.2) i3.2.2.1 (by rw [hT4]; exact b4)
    rw [hT4] at i4
    have i5 := numM_inv hb (p := t4.2.1) (b := t4.2.2) i4.2.2.1 (by rw [hT5]; exact b5)
    rw [hT5] at i5
    have i6 := numM_inv hb (p := t5.2.1) (b := t5.2.2) i5.2.2.1 (by rw [hT6]; exact b6.1)
    rw [hT6] at i6
    have i7 := numsM_inv hb i6.2.2.1 h1
    have e0 := i0.2.2.2
    rw [i1.2.2.2, i2.2.2.2, i3.2.2.2, i4.2.2.2, i5.2.2.2, i6.2.2.2, i7.2, hd _ h2, c] at e0
    have eo : ovN (t6.1 == 1) = t6.1 := by
      rcases (show t6.1 = 0 ∨ t6.1 = 1 by omega) with z | z <;> rw [z] <;> rfl
    rw [eo]
    simp only [reduceIte, List.cons_append, List.nil_append, encs, List.append_nil]
    simpa using e0
  · simp only [if_neg c] at h1 h2 ⊢
    by_cases c1 : (numM l 0 false).1 = 1 ∨ (numM l 0 false).1 = 2 ∨ (numM l 0 false).1 = 3
    · simp only [if_pos c1] at h1 h2 ⊢
      rw [if_neg c, if_neg c]
      generalize hT0 : numM l 0 false = t0 at *
      generalize hT1 : numM l t0.2.1 t0.2.2 = t1 at *
      generalize hT2 : numM l t1.2.1 t1.2.2 = t2 at *
      have b2 := numM_bad h1
      have b1 := numM_bad (by rw [hT2]; exact b2)
      have b0 := numM_bad (by rw [hT1]; exact b1)
      have i0 := z0 b0
      have i1 := numM_inv hb (p := t0.2.1) (b := t0.2.2) i0.2.2.1 (by rw [hT1]; exact b1)
      rw [hT1] at i1
      have i2 := numM_inv hb (p := t1.2.1) (b := t1.2.2) i1.2.2.1 (by rw [hT2]; exact b2)
      rw [hT2] at i2
      have i3 := numM_inv hb (p := t2.2.1) (b := t2.2.2) i2.2.2.1 h1
      have e0 := i0.2.2.2
      rw [i1.2.2.2, i2.2.2.2, i3.2.2.2, hd _ h2] at e0
      simp only [List.append_nil, encs]
      simpa using e0
    · simp only [if_neg c1] at h1 h2 ⊢
      by_cases c5 : (numM l 0 false).1 = 5
      · simp only [if_pos c5] at h1 h2 ⊢
        generalize hT0 : numM l 0 false = t0 at *
        have b0 := numM_bad h1
        have i0 := z0 b0
        have i1 := numM_inv hb (p := t0.2.1) (b := t0.2.2) i0.2.2.1 h1
        have e0 := i0.2.2.2
        rw [i1.2.2.2, hd _ h2, c5] at e0
        rw [if_neg (show ¬ (5 : Int) = 0 by decide), if_neg (show ¬ ((5 : Int) = 1 ∨ (5 : Int) = 2 ∨ (5 : Int) = 3) by decide), if_neg (show ¬ (5 : Int) = 0 by decide)]
        simp only [reduceIte, List.append_nil, encs]
        simpa using e0
      · simp only [if_neg c5] at h1 h2 ⊢
        have i0 := z0 h1
        have e0 := i0.2.2.2
        rw [hd _ h2] at e0
        simp only [if_neg c, if_neg c1, if_neg c5, List.append_nil, encs]
        simpa using e0
theorem getR_cases (l : List Nat) (hb : ∀ y ∈ l, y < 256) : getR l = (RV.z, 1000) ∨ ∃ r : RV, r.ok = true ∧ l = (renc r) ∧ getR l = (r, 0) := by
  have h := raw_rinv hb
  unfold getR
  by_cases c : (rawR l).2.2 = false ∧ (rawR l).2.1 = l.length ∧ (rawR l).1.ok = true
  · rw [if_pos c]; exact .inr ⟨_, c.2.2, h c.1 c.2.1, rfl⟩
  · rw [if_neg c]; exact .inl rfl
theorem getR_cut {r : RV} (h : r.ok = true) (m : Nat) (hm : m < (renc r).length) : getR ((renc r).take m) = (RV.z, 1000) := by
  have hb : ∀ y ∈ (renc r), y < 256 := encs_lt _ (ok_rng h)
  rcases getR_cases ((renc r).take m) (fun y hy => hb y (List.mem_of_mem_take hy)) with e | ⟨b, hb2, e, _⟩
  · exact e
  · have ht := List.take_append_drop m (renc r)
    rw [e] at ht
    have := (renc_pre hb2 h (t := []) (by rw [ht, List.append_nil])).2
    have hl := congrArg List.length this
    rw [List.length_drop, List.length_nil] at hl
    omega
/-! the printed functions -/
theorem l0_ev (s : ByteArray) (hs : s.size ≤ 4611686018427387904) (n : Nat) (hn : n ≤ 9) : ∀ (d i k : Nat) (acc : List Int) (p : Int) (b : Bool), d + i = n → acc.length = i → 0 ≤ p → p ≤ s.size → d + 21 ≤ k →
    varint_Reader_Nums.l0 k acc (n : Int) (i : Int) s p b = some (acc ++ (readN (L s) d p b).1, s, (readN (L s) d p b).2.1, (readN (L s) d p b).2.2)
  | 0, i, k, acc, p, b, hd, ha, h0, h1, hk => by
    obtain ⟨k, rfl⟩ : ∃ m, k = m + 1 := ⟨k - 1, by omega⟩
    simp only [varint_Reader_Nums.l0]
    rw [if_neg (by omega)]
    simp only [readN, List.append_nil]
  | d + 1, i, k, acc, p, b, hd, ha, h0, h1, hk => by
    obtain ⟨k, rfl⟩ : ∃ m, k = m + 1 := ⟨k - 1, by omega⟩
    have hr := num_rng (L s) (L_lt s) p b h0 (by rw [L_len]; exact h1)
    rw [L_len] at hr
    simp only [varint_Reader_Nums.l0]
    have hw : wrap64 ((i : Int) + 1) = ((i + 1 : Nat) : Int) := by rw [wrap64_id (by omega) (by omega)]; omega
    rw [if_pos (by omega), num_ev s hs p b h0 h1 k (by omega), Option.bind_some]
    dsimp only
    rw [if_pos (by omega), hw, l0_ev s hs n hn d (i + 1) k _ _ _ (by omega) (by simp [ha]) hr.1 hr.2 (by omega)]
    simp only [readN, List.append_assoc, List.cons_append, List.nil_append]
theorem nums_ev (s : ByteArray) (hs : s.size ≤ 4611686018427387904) (p : Int) (b : Bool) (h0 : 0 ≤ p) (h1 : p ≤ s.size) (k : Nat) (hk : 40 ≤ k) :
    varint_Reader_Nums.f k s p b 9 = some ((numsM (L s) p b).1, s, (numsM (L s) p b).2.1, (numsM (L s) p b).2.2) := by
  have hr := num_rng (L s) (L_lt s) p b h0 (by rw [L_len]; exact h1)
  rw [L_len] at hr
  obtain ⟨m, rfl⟩ : ∃ m, k = m + 1 := ⟨k - 1, by omega⟩
  unfold varint_Reader_Nums.f numsM
  rw [num_ev s hs p b h0 h1 _ (by omega), Option.bind_some]
  dsimp only
  generalize numM (L s) p b = t at *
  by_cases c : t.2.2 = true
  · rw [if_pos c, if_pos (.inl c)]
    simp only [varint_Reader_Nums.j0, reduceIte]
  · rw [if_neg c]
    have c' : t.2.2 = false := by simpa using c
    by_cases c1 : t.1 < 0
    · rw [if_pos c1, if_pos (.inr (.inl c1))]
      simp only [varint_Reader_Nums.j0, reduceIte]
    · rw [if_neg c1]
      by_cases c2 : 9 < t.1
      · rw [if_pos (.inr (.inr c2)), decide_eq_true (show t.1 > 9 from c2)]
        simp only [varint_Reader_Nums.j0, reduceIte]
      · rw [if_neg (fun z => by rcases z with z | z | z; exact c z; exact c1 z; exact c2 z), decide_eq_false (show ¬ t.1 > 9 from c2)]
        simp only [varint_Reader_Nums.j0]
        rw [if_neg (by decide)]
        have e := l0_ev s hs t.1.toNat (by omega) t.1.toNat 0 m [] t.2.1 false (by omega) rfl hr.1 hr.2 (by omega)
        rw [Int.toNat_of_nonneg (by omega)] at e
        exact e
theorem rraw_ev (s : ByteArray) (hs : s.size ≤ 4611686018427387904) (k : Nat) (hk : 40 ≤ k) : record_Get.raw k s = some ((rawR (L s)).1, s, (rawR (L s)).2.1, (rawR (L s)).2.2) := by
  have hb := L_lt s
  have hlen := L_len s
  have N : ∀ (p : Int) (b : Bool), 0 ≤ p → p ≤ s.size → varint_Reader_Num.f k s p b = some ((numM (L s) p b).1, s, (numM (L s) p b).2.1, (numM (L s) p b).2.2) := fun p b a1 a2 => num_ev s hs p b a1 a2 k (by omega)
  have R : ∀ (p : Int) (b : Bool), 0 ≤ p → p ≤ s.size → 0 ≤ (numM (L s) p b).2.1 ∧ (numM (L s) p b).2.1 ≤ s.size := fun p b a1 a2 => by
    have := num_rng (L s) hb p b a1 (by omega); omega
  unfold record_Get.raw rawR
  have r0 := R 0 false (by omega) (by omega)
  rw [N 0 false (by omega) (by omega), Option.bind_some]
  dsimp only
  generalize numM (L s) 0 false = t0 at *
  by_cases c : t0.1 = 0
  · rw [if_pos c, if_pos c]
    unfold record_read.f
    have r1 := R t0.2.1 t0.2.2 r0.1 r0.2
    rw [N _ _ r0.1 r0.2, Option.bind_some]
    dsimp only
    generalize numM (L s) t0.2.1 t0.2.2 = t1 at *
    have r2 := R t1.2.1 t1.2.2 r1.1 r1.2
    rw [N _ _ r1.1 r1.2, Option.bind_some]
    dsimp only
    generalize numM (L s) t1.2.1 t1.2.2 = t2 at *
    have r3 := R t2.2.1 t2.2.2 r2.1 r2.2
    rw [N _ _ r2.1 r2.2, Option.bind_some]
    dsimp only
    generalize numM (L s) t2.2.1 t2.2.2 = t3 at *
    have r4 := R t3.2.1 t3.2.2 r3.1 r3.2
    rw [N _ _ r3.1 r3.2, Option.bind_some]
    dsimp only
    generalize numM (L s) t3.2.1 t3.2.2 = t4 at *
    have r5 := R t4.2.1 t4.2.2 r4.1 r4.2
    rw [N _ _ r4.1 r4.2, Option.bind_some]
    dsimp only
    generalize numM (L s) t4.2.1 t4.2.2 = t5 at *
    have r6 := R t5.2.1 t5.2.2 r5.1 r5.2
    rw [N _ _ r5.1 r5.2, Option.bind_some]
    dsimp only
    generalize numM (L s) t5.2.1 t5.2.2 = t6 at *
    by_cases d : t6.2.2 = true
    · rw [if_pos d, nums_ev s hs _ _ r6.1 r6.2 k hk, d]
      simp only [Option.bind_some, Bool.true_or]
    · have d' : t6.2.2 = false := by simpa using d
      rw [if_neg d]
      by_cases d1 : t6.1 < 0
      · rw [if_pos d1, nums_ev s hs _ _ r6.1 r6.2 k hk, d', decide_eq_true d1]
        simp only [Option.bind_some, Bool.false_or, Bool.true_or]
      · rw [if_neg d1, nums_ev s hs _ _ r6.1 r6.2 k hk, d', decide_eq_false d1]
        simp only [Option.bind_some, Bool.false_or]
  · rw [if_neg c, if_neg c]
    by_cases c1 : t0.1 = 1 ∨ t0.1 = 2 ∨ t0.1 = 3
    · rw [if_pos c1, if_pos c1]
      have r1 := R t0.2.1 t0.2.2 r0.1 r0.2
      have r2 := R _ (numM (L s) t0.2.1 t0.2.2).2.2 r1.1 r1.2
      rw [N _ _ r0.1 r0.2, Option.bind_some]
      dsimp only
      rw [N _ _ r1.1 r1.2, Option.bind_some]
      dsimp only
      rw [N _ _ r2.1 r2.2, Option.bind_some]
    · rw [if_neg c1, if_neg c1]
      by_cases c5 : t0.1 = 5
      · rw [if_pos c5, if_pos c5, N _ _ r0.1 r0.2, Option.bind_some]
      · rw [if_neg c5, if_neg c5]
theorem get10 (s : ByteArray) (hs : s.size ≤ 4611686018427387904) (k : Nat) (hk : 40 ≤ k) : record_Get.f k s = some (getR (L s)) := by
  have hlen := L_len s
  unfold record_Get.f getR
  rw [rraw_ev s hs k hk, Option.bind_some]
  dsimp only
  generalize rawR (L s) = q
  obtain ⟨r, p, b⟩ := q
  dsimp only
  cases b with
  | true => simp only [reduceIte, Bool.false_eq_true, Bool.true_eq_false, false_and]
  | false =>
    by_cases c : p = (s.size : Int)
    · rw [if_neg (by decide), if_pos (by simp [c])]
      by_cases m : r.ok = true
      · rw [if_pos m, if_pos ⟨rfl, by omega, m⟩]
      · rw [if_neg m, if_neg (fun h => m h.2.2)]
    · rw [if_neg (by decide), if_neg (by simp [c]), if_neg (fun h => c (by omega))]
theorem over_ev (b : Bool) : record_over.f b = some (ovN b) := by cases b <;> rfl
theorem S_size {l : List Nat} (h : ∀ y ∈ l, y < 256) : (S l).size = l.length := by rw [← L_len, L_S h]
theorem S_app {a b : List Nat} (ha : ∀ y ∈ a, y < 256) (hb : ∀ y ∈ b, y < 256) : S a ++ S b = S (a ++ b) := by
  apply L_inj
  rw [L_append, L_S ha, L_S hb, L_S (fun y hy => by
    rcases List.mem_append.1 hy with h | h
    · exact ha y h
    · exact hb y h)]
theorem put10 {r : RV} (h : r.ok = true) (k : Nat) (hk : 40 ≤ k) : record_Put.f k r.k r.q r.s r.st r.en r.v r.ov r.l r.se r.ti r.sq r.by_ = some (S (renc r), 0) := by
  have hr := ok_rng h
  have c := ok_cases h
  have ln := ok_len h
  have h' : recB r.k r.q r.s r.st r.en r.v r.ov r.l r.se r.ti r.sq r.by_ = true := h
  unfold record_Put.f
  rw [if_pos h']
  unfold rlist at hr
  have E : ∀ l : List Int, (∀ x ∈ l, rng x) → ∀ y ∈ encs l, y < 256 := fun l hl => encs_lt l hl
  have ol : (renc r) = encs ((rhead r) ++ (rtl r)) := rfl
  unfold rhead rtl at hr ol
  rcases c with c | c | c | c
  · rw [if_pos c.1, if_pos c.1] at hr ol
    have hk0 := hr r.k (by simp)
    have hm : ∀ x ∈ [r.q, r.s, r.st, r.en, r.v, ovN r.ov, (r.l.length : Int)], rng x := fun x hx => hr x (by simp only [List.mem_append, List.mem_cons, List.not_mem_nil, or_false] at hx ⊢; exact .inl (.inr hx))
    have hl : ∀ x ∈ r.l, rng x := fun x hx => hr x (by simp [hx])
    have e : (renc r) = encs [r.k] ++ (encs [r.q, r.s, r.st, r.en, r.v, ovN r.ov, (r.l.length : Int)] ++ encs r.l) := by
      rw [ol, encs_app]; simp only [encs, List.append_assoc, List.append_nil]
    have e1 : enc (zig r.k) = encs [r.k] := by simp [encs]
    rw [put_ev hk0.1 hk0.2 k (by omega), Option.bind_some, e1]
    unfold record_Put.tail
    have hk1 : ∀ x ∈ [r.k], rng x := fun x hx => by simp only [List.mem_cons, List.not_mem_nil, or_false] at hx; subst hx; exact hk0
    rw [if_pos c.1, over_ev, Option.bind_some, all_ev _ hm (by simp) k (by simp; omega), Option.bind_some, all_ev _ hl (by omega) k (by omega), Option.bind_some]
    rw [e] at ln
    simp only [List.length_append] at ln
    rw [if_pos (by rw [S_size (E _ hk1), S_size (E _ hm), S_size (E _ hl)]; omega), S_app (E _ hm) (E _ hl), S_app (E _ hk1) (fun y hy => by
      rcases List.mem_append.1 hy with z | z
      · exact E _ hm y z
      · exact E _ hl y z), e]
  · rw [if_neg (by omega), if_pos c.1, if_neg (by omega)] at hr ol
    have hk0 := hr r.k (by simp)
    have hm : ∀ x ∈ [r.se, r.ti, r.sq], rng x := fun x hx => hr x (by simp only [List.mem_append, List.mem_cons, List.not_mem_nil, or_false] at hx ⊢; exact .inr hx)
    have e : (renc r) = encs [r.k] ++ encs [r.se, r.ti, r.sq] := by rw [ol]; simp only [encs, List.append_assoc, List.append_nil]
    have e1 : enc (zig r.k) = encs [r.k] := by simp [encs]
    have hk1 : ∀ x ∈ [r.k], rng x := fun x hx => by simp only [List.mem_cons, List.not_mem_nil, or_false] at hx; subst hx; exact hk0
    rw [put_ev hk0.1 hk0.2 k (by omega), Option.bind_some, e1]
    unfold record_Put.tail
    rw [if_neg (by omega), if_pos c.1, all_ev _ hm (by simp) k (by simp; omega), Option.bind_some]
    rw [e] at ln
    simp only [List.length_append] at ln
    rw [if_pos (by rw [S_size (E _ hk1), S_size (E _ hm)]; omega), S_app (E _ hk1) (E _ hm), e]
  · rw [if_neg (by omega), if_neg (by omega), if_neg (by omega), if_neg (by omega)] at hr ol
    have hk0 := hr r.k (by simp)
    have e : (renc r) = enc (zig r.k) := by rw [ol]; simp only [encs, List.append_nil]
    rw [put_ev hk0.1 hk0.2 k (by omega), Option.bind_some]
    unfold record_Put.tail
    rw [if_neg (by omega), if_neg (by omega), if_neg (by omega), e]
  · rw [if_neg (by omega), if_neg (by omega), if_pos c.1, if_neg (by omega)] at hr ol
    have hk0 := hr r.k (by simp)
    have hm0 := hr r.by_ (by simp)
    have e : (renc r) = encs [r.k] ++ encs [r.by_] := by rw [ol]; simp only [encs, List.append_nil, List.append_assoc]
    have e1 : enc (zig r.k) = encs [r.k] := by simp [encs]
    have e2 : enc (zig r.by_) = encs [r.by_] := by simp [encs]
    have hk1 : ∀ x ∈ [r.k], rng x := fun x hx => by simp only [List.mem_cons, List.not_mem_nil, or_false] at hx; subst hx; exact hk0
    have hm : ∀ x ∈ [r.by_], rng x := fun x hx => by simp only [List.mem_cons, List.not_mem_nil, or_false] at hx; subst hx; exact hm0
    rw [put_ev hk0.1 hk0.2 k (by omega), Option.bind_some, e1]
    unfold record_Put.tail
    rw [if_neg (by omega), if_neg (by omega), if_pos c.1, put_ev hm0.1 hm0.2 k (by omega), Option.bind_some, e2]
    rw [e] at ln
    simp only [List.length_append] at ln
    rw [if_pos (by rw [S_size (E _ hk1), S_size (E _ hm)]; omega), S_app (E _ hk1) (E _ hm), e]
theorem put10_no {r : RV} (h : r.ok = false) (k : Nat) : record_Put.f k r.k r.q r.s r.st r.en r.v r.ov r.l r.se r.ti r.sq r.by_ = some ((⟨#[]⟩ : ByteArray), 1000) := by
  unfold record_Put.f
  rw [if_neg (fun e => by rw [show r.ok = true from e] at h; cases h)]

/-! ### awk10 -/
theorem ok_r0 : RV.ok ⟨0, 1, 2, -3, 4, 0, false, [1, 2], 0, 0, 0, 0⟩ = true := by
  unfold RV.ok recB
  rw [if_pos rfl]
  simp only [Bool.and_eq_true, beq_iff_eq]
  exact ⟨res_iff.2 (by simp), bare_iff.2 (by simp), by first | rfl | trivial⟩
theorem ok_r1 : RV.ok ⟨1, 0, 0, 0, 0, 0, false, [], 1, 2, 3, 0⟩ = true := by
  unfold RV.ok recB
  rw [if_neg (by decide), if_pos (by decide)]
  simp only [Bool.and_eq_true, beq_iff_eq]
  exact ⟨none_iff.2 (by simp), ref_iff.2 (by simp), by first | rfl | trivial⟩
theorem ok_r2 : RV.ok ⟨5, 0, 0, 0, 0, 0, false, [], 0, 0, 0, 0⟩ = false := by
  cases h : RV.ok ⟨5, 0, 0, 0, 0, 0, false, [], 0, 0, 0, 0⟩ with
  | false => rfl
  | true =>
    exfalso
    rcases ok_cases h with c | c | c | c <;> dsimp only at c <;> omega
theorem enc_r0 : renc ⟨0, 1, 2, -3, 4, 0, false, [1, 2], 0, 0, 0, 0⟩ = [0, 2, 4, 5, 8, 0, 0, 4, 2, 4] := by
  show encs [0, 1, 2, -3, 4, 0, 0, 2, 1, 2] = _
  simp only [encs]
  rw [show zig 0 = 0 by decide, show zig 1 = 2 by decide, show zig 2 = 4 by decide, show zig (-3) = 5 by decide, show zig 4 = 8 by decide,
    enc_small (u := 0) (by decide), enc_small (u := 2) (by decide), enc_small (u := 4) (by decide), enc_small (u := 5) (by decide), enc_small (u := 8) (by decide)]
  rfl
theorem enc_r1 : renc ⟨1, 0, 0, 0, 0, 0, false, [], 1, 2, 3, 0⟩ = [2, 2, 4, 6] := by
  show encs [1, 1, 2, 3] = _
  simp only [encs]
  rw [show zig 1 = 2 by decide, show zig 2 = 4 by decide, show zig 3 = 6 by decide, enc_small (u := 2) (by decide), enc_small (u := 4) (by decide), enc_small (u := 6) (by decide)]
  rfl
theorem S_r0 : S [0, 2, 4, 5, 8, 0, 0, 4, 2, 4] = (⟨#[0, 2, 4, 5, 8, 0, 0, 4, 2, 4]⟩ : ByteArray) := by
  apply L_inj; rw [L_S (by decide)]; decide +kernel
theorem S_r1 : S [2, 2, 4, 6] = (⟨#[2, 2, 4, 6]⟩ : ByteArray) := by
  apply L_inj; rw [L_S (by decide)]; decide +kernel
theorem a1_ev (k : Nat) (hk : 40 ≤ k) : record_Put.f k 0 1 2 (-3) 4 0 false [1, 2] 0 0 0 0 = some ((⟨#[0, 2, 4, 5, 8, 0, 0, 4, 2, 4]⟩ : ByteArray), 0) := by
  have := put10 ok_r0 k hk
  rw [enc_r0, S_r0] at this; exact this
theorem a2_ev (k : Nat) (hk : 40 ≤ k) : record_Get.f k (⟨#[0, 2, 4, 5, 8, 0, 0, 4, 2, 4]⟩ : ByteArray) = some (⟨0, 1, 2, -3, 4, 0, false, [1, 2], 0, 0, 0, 0⟩, 0) := by
  rw [get10 _ (by decide +kernel) k hk, show L (⟨#[0, 2, 4, 5, 8, 0, 0, 4, 2, 4]⟩ : ByteArray) = [0, 2, 4, 5, 8, 0, 0, 4, 2, 4] by decide +kernel, ← enc_r0, getR_enc ok_r0]
theorem a3_ev (k : Nat) (hk : 40 ≤ k) : record_Get.f k ((⟨#[0, 2, 4, 5, 8, 0, 0, 4, 2, 4]⟩ : ByteArray) ++ (⟨#[0]⟩ : ByteArray)) = some (⟨0, 0, 0, 0, 0, 0, false, [], 0, 0, 0, 0⟩, 1000) := by
  have hz : L ((⟨#[0, 2, 4, 5, 8, 0, 0, 4, 2, 4]⟩ : ByteArray) ++ (⟨#[0]⟩ : ByteArray)) = [0, 2, 4, 5, 8, 0, 0, 4, 2, 4] ++ [0] := by
    rw [L_append, show L (⟨#[0, 2, 4, 5, 8, 0, 0, 4, 2, 4]⟩ : ByteArray) = [0, 2, 4, 5, 8, 0, 0, 4, 2, 4] by decide +kernel, show L (⟨#[0]⟩ : ByteArray) = [0] by decide +kernel]
  rw [get10 _ (by rw [← L_len, hz]; decide) k hk, hz, ← enc_r0]
  rcases getR_cases (renc ⟨0, 1, 2, -3, 4, 0, false, [1, 2], 0, 0, 0, 0⟩ ++ [0]) (by rw [enc_r0]; decide) with e | ⟨r, ho, e, _⟩
  · rw [e]; rfl
  · have := (renc_pre ok_r0 ho (x := [0]) (t := []) (by rw [e, List.append_nil])).2
    cases this
theorem a4_ev (k : Nat) : record_Put.f k 5 0 0 0 0 0 false [] 0 0 0 0 = some ((⟨#[]⟩ : ByteArray), 1000) := put10_no ok_r2 k
theorem a5_ev (k : Nat) (hk : 40 ≤ k) : record_Put.f k 1 0 0 0 0 0 false [] 1 2 3 0 = some ((⟨#[2, 2, 4, 6]⟩ : ByteArray), 0) := by
  have := put10 ok_r1 k hk
  rw [enc_r1, S_r1] at this; exact this
theorem a6_ev : record_May.f 0 1 2 (-3) 4 0 false [1, 2] 0 0 0 0 = some true := congrArg some ok_r0

theorem done10 : True := trivial

end Go.Proofs.Ytikfpihapdabfaa.RecPureR
