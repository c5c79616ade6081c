/- The law RecordForms answers true at any two numbers: records that may not be are told as such. No condition. -/
import Derived.Test.YtikfpihapdabfaaRecordFormsWalk
namespace Go.Proofs.Ytikfpihapdabfaa.RecordFormsMath
open Go.RowKit Go.Proofs.Ytikfpihapdabfaa.QRecordBack Go.Proofs.Ytikfpihapdabfaa.RecPure Go.Proofs.Ytikfpihapdabfaa.RecAwake Go.Proofs.Ytikfpihapdabfaa.RecordFormsW Go.Proofs.YtikfpihapdabfaaW.PrintWords Go.Proofs.YtikfpihapdabfaaW.PrintLast Go.Proofs.YtikfpihapdabfaaW.PrintMore
set_option linter.unusedVariables false
set_option linter.unusedSimpArgs false

/-! ### base -/
theorem wf_i64 {a : Int} (h : (Lit.int .i64 a).wf = true) : -9223372036854775808 ≤ a ∧ a ≤ 9223372036854775807 := by
  simpa [Lit.wf, IntKind.min, IntKind.max, IntKind.signed, IntKind.bits] using h
theorem wrap64_id {n : Int} (h1 : -9223372036854775808 ≤ n) (h2 : n ≤ 9223372036854775807) : wrap64 n = n := by
  unfold wrap64; omega
theorem toNat_ofInt64 (a : Int) : ((BitVec.ofInt 64 a).toNat : Int) = a % 18446744073709551616 := by
  rw [BitVec.toNat_ofInt]
  have h : (0 : Int) ≤ a % ((2 ^ 64 : Nat) : Int) := Int.emod_nonneg _ (by decide)
  rw [Int.toNat_of_nonneg h]; rfl
theorem wrap_i64_nat (n : Nat) (h : n < 9223372036854775808) : IntKind.i64.wrap (n : Int) = (n : Int) := by
  rw [IntKind.wrap_i64]; omega
theorem and_mask (a : Int) (j : Nat) (hj : j ≤ 63) : Go.bits .and .i64 a (2 ^ j - 1) = a % 2 ^ j := by
  have hp : 2 ^ j ≤ 2 ^ 63 := Nat.pow_le_pow_right (by decide) hj
  have hpos : 0 < 2 ^ j := Nat.two_pow_pos j
  have hc : ((2 : Int) ^ j - 1) = ((2 ^ j - 1 : Nat) : Int) := by
    rw [Int.natCast_sub hpos]; simp
  have hd : (2 : Int) ^ j ∣ 18446744073709551616 := ⟨2 ^ (64 - j), by rw [← Int.pow_add]; rw [show j + (64 - j) = 64 by omega]; rfl⟩
  show IntKind.i64.wrap (((BitVec.ofInt 64 a &&& BitVec.ofInt 64 (2 ^ j - 1)).toNat : Nat) : Int) = _
  rw [BitVec.toNat_and, hc, BitVec.ofInt_natCast, BitVec.toNat_ofNat, Nat.mod_eq_of_lt (Nat.lt_of_lt_of_le (Nat.sub_lt hpos (by decide)) (Nat.le_trans hp (by decide))), Nat.and_two_pow_sub_one_eq_mod]
  rw [wrap_i64_nat _ (Nat.lt_of_lt_of_le (Nat.mod_lt _ hpos) hp), Int.natCast_emod, toNat_ofInt64, Int.natCast_pow]
  exact Int.emod_emod_of_dvd a hd
theorem and_m (a : Int) (j : Nat) (m p : Int) (hj : j ≤ 63) (hp : (2 : Int) ^ j = p) (hm : m = p - 1) : Go.bits .and .i64 a m = a % p := by
  subst hm; rw [← hp]; exact and_mask a j hj

/-! ### bytes -/
def L (s : ByteArray) : List Nat := s.data.toList.map UInt8.toNat
theorem L_len (s : ByteArray) : (L s).length = s.size := by unfold L; simp
theorem L_append (a b : ByteArray) : L (a ++ b) = L a ++ L b := by unfold L; simp [ByteArray.data_append]
theorem L_extract (s : ByteArray) (i j : Nat) : L (s.extract i j) = ((L s).take j).drop i := by
  unfold L; rw [ByteArray.data_extract, Array.toList_extract, List.extract_eq_take_drop]
  rw [List.map_take, List.map_drop, List.drop_take]
theorem L_lt (s : ByteArray) : ∀ x ∈ L s, x < 256 := by
  intro x hx
  unfold L at hx
  obtain ⟨b, _, rfl⟩ := List.mem_map.1 hx
  exact b.toNat_lt
theorem L_inj {s t : ByteArray} (h : L s = L t) : s = t := by
  unfold L at h
  have hi : Function.Injective UInt8.toNat := fun a b h => UInt8.toNat_inj.1 h
  have := (List.map_inj_right (fun a b h => hi h)).1 h
  cases s; cases t
  congr 1
  exact Array.toList_inj.1 this
theorem bt_L (s : ByteArray) (i : Int) : bt s i = (((L s).getD i.toNat 0 : Nat) : Int) := by
  unfold bt L
  by_cases h : i.toNat < s.size
  · rw [dif_pos h, List.getD_eq_getElem?_getD, List.getElem?_map, List.getElem?_eq_getElem (by simpa using h)]
    simp; rfl
  · rw [dif_neg h, List.getD_eq_getElem?_getD, List.getElem?_eq_none (by simpa using h)]
    simp
theorem L_mk (l : List UInt8) : L ⟨l.toArray⟩ = l.map UInt8.toNat := by unfold L; simp
theorem L_str (xs : List Nat) (h : ∀ x ∈ xs, x < 256) : L (strOfNums (xs.map fun n : Nat => (n : Int))) = xs := by
  unfold strOfNums L
  simp only [List.map_map]
  conv => rhs; rw [← List.map_id xs]
  apply List.map_congr_left
  intro x hx
  have := h x hx
  simp [Function.comp]
  omega
theorem eq_of_toList {s t : ByteArray} (h : s.toList = t.toList) : s = t := by
  rw [ByteArray.toList_eq, ByteArray.toList_eq] at h
  cases s; cases t
  congr 1
  exact Array.toList_inj.1 h
theorem toList_beq (s t : ByteArray) : (s.toList == t.toList) = decide (L s = L t) := by
  by_cases h : s = t
  · subst h; simp
  · have h1 : ¬ s.toList = t.toList := fun e => h (eq_of_toList e)
    have h2 : ¬ L s = L t := fun e => h (L_inj e)
    simp [h1, h2]
theorem L_toList (s : ByteArray) : s.toList.map UInt8.toNat = L s := by rw [ByteArray.toList_eq]; rfl
theorem toList_lit (s : ByteArray) (l : List UInt8) : (s.toList = l) ↔ L s = l.map UInt8.toNat := by
  constructor
  · rintro rfl; rw [L_toList]
  · intro h
    rw [← L_toList] at h
    exact (List.map_inj_right (fun a b h => UInt8.toNat_inj.1 h)).1 h
attribute [local irreducible] L bt

/-! ### vmath -/
def enc (u : Nat) : List Nat := if h : u < 128 then [u] else (u % 128 + 128) :: enc (u / 128)
termination_by u
def zig (x : Int) : Nat := if 0 ≤ x then (2 * x).toNat else (-2 * x - 1).toNat
def unzig (u : Nat) : Int := if u % 2 = 0 then ((u / 2 : Nat) : Int) else -((u / 2 : Nat) : Int) - 1
def fin : List Nat → Nat
  | [] => 0
  | b :: r => if b < 128 then 1 else if fin r = 0 then 0 else fin r + 1
def val : List Nat → Nat
  | [] => 0
  | b :: r => b % 128 + 128 * val r
def getS (l : List Nat) (p : Int) : Int × Int × Int :=
  if fin (l.take 10) = 0 then (if l.length < 10 then (0, 0, 701) else (0, 0, 700))
  else if (fin (l.take 10) = 10 ∧ 1 < l.getD 9 0) ∨ (1 < fin (l.take 10) ∧ l.getD (fin (l.take 10) - 1) 0 = 0) then (0, 0, 700)
  else (unzig (val (l.take (fin (l.take 10)))), p + fin (l.take 10), 0)
theorem enc_small {u : Nat} (h : u < 128) : enc u = [u] := by rw [enc]; rw [dif_pos h]
theorem enc_big {u : Nat} (h : ¬ u < 128) : enc u = (u % 128 + 128) :: enc (u / 128) := by rw [enc]; rw [dif_neg h]
theorem enc_pos (u : Nat) : 1 ≤ (enc u).length := by
  by_cases h : u < 128
  · rw [enc_small h]; simp
  · rw [enc_big h]; simp
theorem enc_ne (u : Nat) : enc u ≠ [] := by
  have := enc_pos u
  intro h; rw [h] at this; simp at this
theorem enc_lt (n : Nat) : ∀ u, u < 128 ^ n → ∀ x ∈ enc u, x < 256 := by
  induction n with
  | zero => intro u hu x hx; rw [enc_small (by omega)] at hx; simp at hx; omega
  | succ n ih =>
    intro u hu x hx
    by_cases h : u < 128
    · rw [enc_small h] at hx; simp at hx; omega
    · rw [enc_big h] at hx
      rcases List.mem_cons.1 hx with rfl | hx
      · omega
      · exact ih (u / 128) (by rw [Nat.pow_succ] at hu; omega) x hx
theorem enc_len (n : Nat) : ∀ u, u < 128 ^ (n + 1) → (n = 0 ∨ 128 ^ n ≤ u) → (enc u).length = n + 1 := by
  induction n with
  | zero => intro u hu _; rw [enc_small (by simpa using hu)]; rfl
  | succ n ih =>
    intro u hu hl
    have hl : 128 ^ (n + 1) ≤ u := by omega
    have h1 : 1 ≤ 128 ^ n := Nat.pow_pos (by decide)
    rw [Nat.pow_succ] at hl hu
    rw [enc_big (by omega)]
    simp only [List.length_cons]
    rw [ih (u / 128) (by omega) (by omega)]
theorem enc_le (n : Nat) : ∀ u, u < 128 ^ (n + 1) → (enc u).length ≤ n + 1 := by
  induction n with
  | zero => intro u hu; rw [enc_small (by simpa using hu)]; simp
  | succ n ih =>
    intro u hu
    by_cases h : u < 128
    · rw [enc_small h]; simp
    · rw [enc_big h]
      rw [Nat.pow_succ] at hu
      have := ih (u / 128) (by omega)
      simp only [List.length_cons]; omega
theorem enc_len10 {u : Nat} (h : u < 18446744073709551616) : (enc u).length ≤ 10 := enc_le 9 u (Nat.lt_of_lt_of_le h (by decide))
theorem fin_enc (r : List Nat) (n : Nat) : ∀ u, u < 128 ^ n → fin (enc u ++ r) = (enc u).length := by
  induction n with
  | zero => intro u hu; rw [enc_small (by omega)]; simp [fin]; omega
  | succ n ih =>
    intro u hu
    by_cases h : u < 128
    · rw [enc_small h]; simp [fin]; omega
    · rw [enc_big h]
      rw [Nat.pow_succ] at hu
      have e := ih (u / 128) (by omega)
      have hp := enc_pos (u / 128)
      simp only [List.cons_append, fin, e, List.length_cons]
      rw [if_neg (by omega), if_neg (by omega)]
theorem fin_cut (n : Nat) : ∀ u, u < 128 ^ n → ∀ m, m < (enc u).length → fin ((enc u).take m) = 0 := by
  induction n with
  | zero => intro u hu m hm; rw [enc_small (by omega)] at *; simp at hm; subst hm; rfl
  | succ n ih =>
    intro u hu m hm
    by_cases h : u < 128
    · rw [enc_small h] at *; simp at hm; subst hm; rfl
    · rw [enc_big h] at *
      rw [Nat.pow_succ] at hu
      cases m with
      | zero => rfl
      | succ m =>
        simp only [List.length_cons] at hm
        have e := ih (u / 128) (by omega) m (by omega)
        simp only [List.take_succ_cons, fin, e]
        rw [if_neg (by omega)]; rfl
theorem val_enc (n : Nat) : ∀ u, u < 128 ^ n → val (enc u) = u := by
  induction n with
  | zero => intro u hu; rw [enc_small (by omega)]; simp [val]; omega
  | succ n ih =>
    intro u hu
    by_cases h : u < 128
    · rw [enc_small h]; simp [val]; omega
    · rw [enc_big h]
      rw [Nat.pow_succ] at hu
      simp only [val, ih (u / 128) (by omega)]; omega
theorem val_lt (l : List Nat) : val l < 128 ^ l.length := by
  induction l with
  | nil => simp [val]
  | cons b r ih => simp only [val, List.length_cons, Nat.pow_succ]; omega
theorem val_app (a b : List Nat) : val (a ++ b) = val a + 128 ^ a.length * val b := by
  induction a with
  | nil => simp [val]
  | cons x r ih =>
    simp only [List.cons_append, val, ih, List.length_cons, Nat.pow_succ]
    rw [Nat.mul_add, ← Nat.mul_assoc, Nat.mul_comm 128 (128 ^ r.length)]; omega
theorem fin_le (l : List Nat) : fin l ≤ l.length := by
  induction l with
  | nil => simp [fin]
  | cons b r ih => simp only [fin, List.length_cons]; split <;> (try split) <;> omega
theorem val_bound (l : List Nat) (h0 : fin (l.take 10) ≠ 0) (hc : ¬ ((fin (l.take 10) = 10 ∧ 1 < l.getD 9 0) ∨ (1 < fin (l.take 10) ∧ l.getD (fin (l.take 10) - 1) 0 = 0))) :
    val (l.take (fin (l.take 10))) < 18446744073709551616 := by
  have hf := fin_le (l.take 10)
  rw [List.length_take] at hf
  generalize fin (l.take 10) = n at *
  have e9 : (128 : Nat) ^ 9 = 9223372036854775808 := by decide
  by_cases c : n = 10
  · subst c
    have h9 : ¬ 1 < l.getD 9 0 := fun z => hc (Or.inl ⟨rfl, z⟩)
    have hl : 9 < l.length := by omega
    rw [List.take_succ_eq_append_getElem hl, val_app]
    have hv := val_lt (l.take 9)
    rw [List.length_take, Nat.min_eq_left (by omega), e9] at hv
    rw [List.getD_eq_getElem?_getD, List.getElem?_eq_getElem hl] at h9
    simp only [Option.getD_some] at h9
    rw [List.length_take, Nat.min_eq_left (by omega), e9]
    simp only [val]
    omega
  · have hv := val_lt (l.take n)
    have : 128 ^ (l.take n).length ≤ 128 ^ 9 := Nat.pow_le_pow_right (by decide) (by rw [List.length_take]; omega)
    omega
/-- The last byte of a number's bytes. -/
theorem enc_last (n : Nat) : ∀ u, u < 128 ^ n → ∀ r, (enc u ++ r).getD ((enc u).length - 1) 0 = u / 128 ^ ((enc u).length - 1) ∧ (1 < (enc u).length → 1 ≤ u / 128 ^ ((enc u).length - 1)) := by
  induction n with
  | zero => intro u hu r; rw [enc_small (by omega)]; simp
  | succ n ih =>
    intro u hu r
    by_cases h : u < 128
    · rw [enc_small h]; simp
    · have hp := enc_pos (u / 128)
      rw [Nat.pow_succ] at hu
      obtain ⟨e1, e2⟩ := ih (u / 128) (by omega) r
      rw [enc_big h]
      simp only [List.length_cons, Nat.add_sub_cancel, List.cons_append]
      have hk : (enc (u / 128)).length = ((enc (u / 128)).length - 1) + 1 := by omega
      have hq : u / 128 ^ (enc (u / 128)).length = u / 128 / 128 ^ ((enc (u / 128)).length - 1) := by
        conv => lhs; rw [hk]
        rw [Nat.pow_succ, Nat.mul_comm, Nat.div_div_eq_div_mul]
      constructor
      · rw [hq, ← e1]
        conv => lhs; rw [hk]
        rw [List.getD_cons_succ]
      · intro _
        rw [hq]
        by_cases c : 1 < (enc (u / 128)).length
        · exact e2 c
        · have : (enc (u / 128)).length - 1 = 0 := by omega
          rw [this]; simp; omega
theorem getS_enc {u : Nat} (hu : u < 18446744073709551616) (r : List Nat) (p : Int) : getS (enc u ++ r) p = (unzig u, p + (enc u).length, 0) := by
  have hu' : u < 128 ^ 10 := Nat.lt_of_lt_of_le hu (by decide)
  have h10 := enc_len10 hu
  have hp := enc_pos u
  have hf : fin ((enc u ++ r).take 10) = (enc u).length := by
    rw [List.take_append, List.take_of_length_le h10]
    exact fin_enc _ 10 u hu'
  obtain ⟨l1, l2⟩ := enc_last 10 u hu' r
  unfold getS
  rw [hf, if_neg (by omega), if_neg]
  · rw [List.take_left, val_enc 10 u hu']
  · rintro (⟨h1, h2⟩ | ⟨h1, h2⟩)
    · rw [h1] at l1
      have : u / 128 ^ (10 - 1) ≤ 1 := by
        have : u / 128 ^ (10 - 1) < 2 := Nat.div_lt_of_lt_mul (by simpa using hu)
        omega
      have : (enc u ++ r).getD 9 0 = u / 128 ^ (10 - 1) := l1
      omega
    · rw [l1] at h2
      have := l2 h1
      omega
theorem enc_of (l : List Nat) : (∀ x ∈ l, x < 256) → fin l = l.length → 1 ≤ l.length → (l.length = 1 ∨ l.getD (l.length - 1) 0 ≠ 0) → enc (val l) = l := by
  induction l with
  | nil => intro _ _ h; simp at h
  | cons b r ih =>
    intro hb hf h1 hl
    have hb0 := hb b (List.mem_cons_self ..)
    cases r with
    | nil =>
      have : b < 128 := by
        by_cases c : b < 128
        · exact c
        · simp [fin, c] at hf
      simp only [val]
      rw [enc_small (by omega)]; congr 1; omega
    | cons c r =>
      have hbig : ¬ b < 128 := by
        intro c'; simp [fin, c'] at hf
      have hf' : fin (c :: r) = (c :: r).length := by
        rw [fin, if_neg hbig] at hf
        by_cases z : fin (c :: r) = 0
        · rw [if_pos z] at hf; simp at hf
        · rw [if_neg z] at hf; simpa using hf
      have hl' : (c :: r).length = 1 ∨ (c :: r).getD ((c :: r).length - 1) 0 ≠ 0 := by
        rcases hl with hl | hl
        · simp at hl
        · refine Or.inr ?_
          simpa using hl
      have e := ih (fun x hx => hb x (List.mem_cons_of_mem _ hx)) hf' (by simp) hl'
      have hv : val (c :: r) ≠ 0 := by
        intro z
        rw [z, enc_small (by decide)] at e
        have : c = 0 ∧ r = [] := by simpa using e.symm
        obtain ⟨rfl, rfl⟩ := this
        rcases hl with hl | hl
        · simp at hl
        · simp at hl
      have ev : val (b :: c :: r) = b % 128 + 128 * val (c :: r) := rfl
      rw [ev, enc_big (by omega)]
      rw [show (b % 128 + 128 * val (c :: r)) / 128 = val (c :: r) by omega, e]
      congr 1; omega
theorem fin_take (l : List Nat) : fin l ≠ 0 → fin (l.take (fin l)) = fin l := by
  induction l with
  | nil => intro h; simp [fin] at h
  | cons b r ih =>
    intro h
    by_cases c : b < 128
    · have : fin (b :: r) = 1 := by simp [fin, c]
      rw [this]; simp [fin, c]
    · by_cases z : fin r = 0
      · exfalso; apply h; simp [fin, c, z]
      · have e : fin (b :: r) = fin r + 1 := by simp [fin, c, z]
        rw [e, List.take_succ_cons]
        simp [fin, c, ih z, z]
theorem getS_ok {l : List Nat} {p x q : Int} (hb : ∀ y ∈ l, y < 256) (h : getS l p = (x, q, 0)) :
    ∃ u r, u < 18446744073709551616 ∧ l = enc u ++ r ∧ x = unzig u ∧ q = p + (enc u).length := by
  unfold getS at h
  by_cases h0 : fin (l.take 10) = 0
  · rw [if_pos h0] at h
    split at h <;> simp at h
  · rw [if_neg h0] at h
    by_cases hc : (fin (l.take 10) = 10 ∧ 1 < l.getD 9 0) ∨ (1 < fin (l.take 10) ∧ l.getD (fin (l.take 10) - 1) 0 = 0)
    · rw [if_pos hc] at h; simp at h
    · rw [if_neg hc] at h
      simp only [Prod.mk.injEq] at h
      obtain ⟨h1, h2, _⟩ := h
      have hvb := val_bound l h0 hc
      generalize hn : fin (l.take 10) = n at *
      have hle : n ≤ 10 := by
        have := fin_le (l.take 10)
        rw [List.length_take] at this; omega
      have hll : n ≤ l.length := by
        have := fin_le (l.take 10)
        rw [List.length_take] at this; omega
      have ht : (l.take n).length = n := by rw [List.length_take]; omega
      have hfn : fin (l.take n) = n := by
        have := fin_take (l.take 10) (by omega)
        rw [hn, List.take_take, Nat.min_eq_left hle] at this
        exact this
      have hlast : (l.take n).getD (n - 1) 0 = l.getD (n - 1) 0 := by
        rw [List.getD_eq_getElem?_getD, List.getD_eq_getElem?_getD, List.getElem?_take_of_lt (by omega)]
      have he : enc (val (l.take n)) = l.take n := by
        refine enc_of _ (fun y hy => hb y (List.mem_of_mem_take hy)) (by rw [hfn, ht]) (by omega) ?_
        rw [ht, hlast]
        by_cases c : n = 1
        · exact Or.inl c
        · exact Or.inr (fun z => hc (Or.inr ⟨by omega, z⟩))
      refine ⟨val (l.take n), l.drop n, ?_, ?_, h1.symm, ?_⟩
      · exact hvb
      · rw [he, List.take_append_drop]
      · rw [he, ht]; exact h2.symm
theorem getS_code (l : List Nat) (p : Int) : (getS l p).2.2 = 0 ∨ getS l p = (0, 0, 700) ∨ getS l p = (0, 0, 701) := by
  unfold getS
  split
  · split <;> simp
  · split <;> simp
theorem unzig_zig (x : Int) : unzig (zig x) = x := by
  unfold unzig zig
  by_cases h : 0 ≤ x
  · rw [if_pos h, if_pos (by omega)]; omega
  · rw [if_neg h, if_neg (by omega)]; omega
theorem zig_unzig (u : Nat) : zig (unzig u) = u := by
  unfold unzig zig
  by_cases h : u % 2 = 0
  · rw [if_pos h, if_pos (by omega)]; omega
  · rw [if_neg h, if_neg (by omega)]; omega
theorem zig_lt {x : Int} (h1 : -9223372036854775808 ≤ x) (h2 : x ≤ 9223372036854775807) : zig x < 18446744073709551616 := by
  unfold zig; split <;> omega
theorem unzig_range {u : Nat} (h : u < 18446744073709551616) : -9223372036854775808 ≤ unzig u ∧ unzig u ≤ 9223372036854775807 := by
  unfold unzig; split <;> omega
theorem getS_cut {u : Nat} (hu : u < 18446744073709551616) (m : Nat) (hm : m < (enc u).length) (p : Int) : getS ((enc u).take m) p = (0, 0, 701) := by
  have h10 := enc_len10 hu
  unfold getS
  rw [List.take_take, Nat.min_eq_right (by omega), fin_cut 10 u (Nat.lt_of_lt_of_le hu (by decide)) m hm, if_pos rfl, if_pos (by rw [List.length_take]; omega)]
theorem enc_inj {u v : Nat} (hu : u < 18446744073709551616) (hv : v < 18446744073709551616) (r t : List Nat) (h : enc u ++ r = enc v ++ t) : u = v ∧ r = t := by
  have h1 := getS_enc hu r 0
  have h2 := getS_enc hv t 0
  rw [h, h2] at h1
  simp only [Prod.mk.injEq] at h1
  have e : u = v := by rw [← zig_unzig u, ← zig_unzig v, h1.1]
  subst e
  exact ⟨rfl, List.append_cancel_left h⟩

theorem fin_small {b : Nat} (h : b < 128) (r : List Nat) : fin (b :: r) = 1 := by simp [fin, h]
theorem fin_big0 {b : Nat} (h : ¬ b < 128) {r : List Nat} (z : fin r = 0) : fin (b :: r) = 0 := by simp [fin, h, z]
theorem fin_big1 {b : Nat} (h : ¬ b < 128) {r : List Nat} (z : fin r ≠ 0) : fin (b :: r) = fin r + 1 := by simp [fin, h, z]

/-! ### vbits -/
theorem u8or_all : ∀ n : Fin 256, Go.bits .or .u8 (n.val : Int) 128 = ((n.val % 128 + 128 : Nat) : Int) := by decide +kernel
theorem u8and_all : ∀ n : Fin 256, Go.bits .and .u8 (n.val : Int) 127 = ((n.val % 128 : Nat) : Int) := by decide +kernel
theorem u8or (n : Nat) (h : n < 256) : Go.bits .or .u8 (n : Int) 128 = ((n % 128 + 128 : Nat) : Int) := u8or_all ⟨n, h⟩
theorem u8and (n : Nat) (h : n < 256) : Go.bits .and .u8 (n : Int) 127 = ((n % 128 : Nat) : Int) := u8and_all ⟨n, h⟩
theorem wrap_u64 (n : Int) : IntKind.u64.wrap n = n % 18446744073709551616 := by simp [IntKind.wrap, IntKind.bits, IntKind.signed]
theorem wrap_u64_id {n : Int} (h0 : 0 ≤ n) (h1 : n < 18446744073709551616) : IntKind.u64.wrap n = n := by rw [wrap_u64]; omega
theorem bv_nat (x : Nat) (h : x < 18446744073709551616) : (BitVec.ofInt 64 (x : Int)).toNat = x := by
  rw [BitVec.ofInt_natCast, BitVec.toNat_ofNat]; exact Nat.mod_eq_of_lt h
theorem xor64_zero (x : Nat) (h : x < 18446744073709551616) : Go.bits .xor .u64 (x : Int) 0 = (x : Int) := by
  show IntKind.u64.wrap (((BitVec.ofInt 64 (x : Int) ^^^ BitVec.ofInt 64 0).toNat : Nat) : Int) = _
  rw [show BitVec.ofInt 64 0 = 0#64 from rfl, BitVec.xor_zero, bv_nat x h, wrap_u64]; omega
theorem xor64_ones (x : Nat) (h : x < 18446744073709551616) : Go.bits .xor .u64 (x : Int) 18446744073709551615 = 18446744073709551615 - (x : Int) := by
  show IntKind.u64.wrap (((BitVec.ofInt 64 (x : Int) ^^^ BitVec.ofInt 64 18446744073709551615).toNat : Nat) : Int) = _
  rw [show BitVec.ofInt 64 18446744073709551615 = BitVec.allOnes 64 from by decide, BitVec.xor_allOnes, BitVec.toNat_not, bv_nat x h, wrap_u64]; omega
theorem xori_zero (x : Nat) (h : x < 9223372036854775808) : Go.bits .xor .i64 (x : Int) 0 = (x : Int) := by
  show IntKind.i64.wrap (((BitVec.ofInt 64 (x : Int) ^^^ BitVec.ofInt 64 0).toNat : Nat) : Int) = _
  rw [show BitVec.ofInt 64 0 = 0#64 from rfl, BitVec.xor_zero, bv_nat x (by omega), IntKind.wrap_i64]; omega
theorem xori_ones (x : Nat) (h : x < 9223372036854775808) : Go.bits .xor .i64 (x : Int) (-1) = -(x : Int) - 1 := by
  show IntKind.i64.wrap (((BitVec.ofInt 64 (x : Int) ^^^ BitVec.ofInt 64 (-1)).toNat : Nat) : Int) = _
  rw [show BitVec.ofInt 64 (-1) = BitVec.allOnes 64 from by decide, BitVec.xor_allOnes, BitVec.toNat_not, bv_nat x (by omega), IntKind.wrap_i64]; omega
theorem and64_one (x : Nat) (h : x < 18446744073709551616) : Go.bits .and .u64 (x : Int) 1 = ((x % 2 : Nat) : Int) := by
  have := bits_mask .u64 64 (Nat.le_refl _) (fun n h0 h1 => wrap_u64_id h0 (by simpa using h1)) 1 (by decide) (x : Int) (by omega) (by simpa using Int.ofNat_lt.2 h)
  simpa using this
theorem or64 (x y : Nat) (hx : x < 18446744073709551616) (hd : x % 128 = 0) (hy : y < 128) : Go.bits .or .u64 (x : Int) (y : Int) = ((x + y : Nat) : Int) := by
  have := bits_join .u64 64 (Nat.le_refl _) (fun n h0 h1 => wrap_u64_id h0 (by simpa using h1)) 7 (x : Int) (y : Int) (by omega) (by simp; omega) (by simpa using Int.ofNat_lt.2 hx) (by omega) (by simp; omega) (by simp; omega)
  rw [this]; simp
/-- Bytes of small numbers. -/
def S (l : List Nat) : ByteArray := strOfNums (l.map fun n : Nat => (n : Int))
theorem L_S {l : List Nat} (h : ∀ x ∈ l, x < 256) : L (S l) = l := L_str l h
theorem put_u {x : Int} (h1 : -9223372036854775808 ≤ x) (h2 : x ≤ 9223372036854775807) :
    Go.bits .xor .u64 (IntKind.u64.wrap ((IntKind.u64.wrap x) * 2)) (IntKind.u64.wrap (x / 9223372036854775808)) = ((zig x : Nat) : Int) := by
  unfold zig
  by_cases h : 0 ≤ x
  · have e1 : IntKind.u64.wrap (x / 9223372036854775808) = 0 := by rw [wrap_u64]; omega
    have e2 : IntKind.u64.wrap ((IntKind.u64.wrap x) * 2) = (((2 * x).toNat : Nat) : Int) := by rw [wrap_u64, wrap_u64]; omega
    rw [e1, e2, xor64_zero _ (by omega), if_pos h]
  · have e1 : IntKind.u64.wrap (x / 9223372036854775808) = 18446744073709551615 := by rw [wrap_u64]; omega
    have e2 : IntKind.u64.wrap ((IntKind.u64.wrap x) * 2) = (((2 * x + 18446744073709551616).toNat : Nat) : Int) := by rw [wrap_u64, wrap_u64]; omega
    rw [e1, e2, xor64_ones _ (by omega), if_neg h]; omega
theorem xor64_ones' (x : Nat) (h : x < 18446744073709551616) : Go.bits .xor .u64 18446744073709551615 (x : Int) = 18446744073709551615 - (x : Int) := by
  show IntKind.u64.wrap (((BitVec.ofInt 64 18446744073709551615 ^^^ BitVec.ofInt 64 (x : Int)).toNat : Nat) : Int) = _
  rw [show BitVec.ofInt 64 18446744073709551615 = BitVec.allOnes 64 from by decide, BitVec.xor_comm, BitVec.xor_allOnes, BitVec.toNat_not, bv_nat x h, wrap_u64]; omega
theorem or128u_all : ∀ n : Fin 128, (Go.bits .or .u64 (n.val : Int) 128) % 256 = ((n.val + 128 : Nat) : Int) := by decide +kernel
theorem and127u (x : Nat) (h : x < 18446744073709551616) : Go.bits .and .u64 (x : Int) 127 = ((x % 128 : Nat) : Int) := by
  have := bits_mask .u64 64 (Nat.le_refl _) (fun n h0 h1 => wrap_u64_id h0 (by simpa using h1)) 7 (by decide) (x : Int) (by omega) (by simpa using Int.ofNat_lt.2 h)
  simpa using this
theorem fin_app0 (b : Nat) (hb : ¬ b < 128) : ∀ l, fin l = 0 → fin (l ++ [b]) = 0 := by
  intro l
  induction l with
  | nil => intro _; simp [fin, hb]
  | cons c r ih =>
    intro h
    by_cases c1 : c < 128
    · simp [fin, c1] at h
    · have hr : fin r = 0 := by
        by_cases z : fin r = 0
        · exact z
        · simp [fin, c1, z] at h
      simp [fin, c1, ih hr]
theorem fin_app1 (b : Nat) (hb : b < 128) (t : List Nat) : ∀ l, fin l = 0 → fin (l ++ b :: t) = l.length + 1 := by
  intro l
  induction l with
  | nil => intro _; simp [fin, hb]
  | cons c r ih =>
    intro h
    by_cases c1 : c < 128
    · simp [fin, c1] at h
    · have hr : fin r = 0 := by
        by_cases z : fin r = 0
        · exact z
        · simp [fin, c1, z] at h
      simp [fin, c1, ih hr]

theorem ok_f1 : RV.ok ⟨0, 7, 1048575, -4398046511104, 4398046511104, 72057594037927940, false, [0, 0, 0, 0, 0, 0, 0, 0, 0], 0, 0, 0, 0⟩ = true := by
  unfold RV.ok recB
  rw [if_pos rfl]
  simp only [Bool.and_eq_true, beq_iff_eq]
  exact ⟨res_iff.2 (by simp), bare_iff.2 (by simp), by first | rfl | trivial⟩
theorem ok_f2 : RV.ok ⟨1, 0, 0, 0, 0, 0, false, [], 1048575, -1099511627776, 1073741823, 0⟩ = true := by
  unfold RV.ok recB
  rw [if_neg (by decide), if_pos (by decide)]
  simp only [Bool.and_eq_true, beq_iff_eq]
  exact ⟨none_iff.2 (by simp), ref_iff.2 (by simp), by first | rfl | trivial⟩
theorem ok_f3 : RV.ok ⟨4, 0, 0, 0, 0, 0, false, [], 0, 0, 0, 0⟩ = true := by
  unfold RV.ok recB
  rw [if_neg (by decide), if_neg (by decide), if_pos rfl]
  simp only [Bool.and_eq_true, beq_iff_eq]
  exact ⟨none_iff.2 (by simp), bare_iff.2 (by simp), by first | rfl | trivial⟩
theorem ok_f4 : RV.ok ⟨5, 0, 0, 0, 0, 0, false, [], 0, 0, 0, 1073741823⟩ = true := by
  unfold RV.ok recB
  rw [if_neg (by decide), if_neg (by decide), if_neg (by decide), if_pos rfl]
  simp only [Bool.and_eq_true, beq_iff_eq]
  exact ⟨none_iff.2 (by simp), bare_iff.2 (by simp), by decide⟩
theorem forms_walk (a0 a1 : Int) (w : World) (h0 : (Lit.int .i64 a0).wf = true) (h1 : (Lit.int .i64 a1).wf = true) :
    Calls Try.prog 5 #[.int .i64 a0, .int .i64 a1] w fun e w' => e = .returned (.bool true) ∧ Below w.heap.size w w' := by
  have e1 := and_m a1 10 1023 1024 (by omega) rfl rfl
  have b1 : 0 ≤ a1 % 1024 := Int.emod_nonneg _ (by omega)
  have b2 : a1 % 1024 < 1024 := Int.emod_lt_of_pos _ (by omega)
  have hd : wrap64 (1 + (Go.bits .and .i64 a1 1023)) = 1 + a1 % 1024 := by rw [e1, wrap64_id (by omega) (by omega)]
  have hu : Int.tmod (IntKind.u64.wrap a0) 22 = a0 % 18446744073709551616 % 22 := by rw [wrap_u64, Int.tmod_eq_emod_of_nonneg (by omega)]
  exact forms_calls 40 a0 a1 (1 + a1 % 1024) w (by rw [hu]; omega) (by rw [hu]; omega) ⟨hd⟩ (by omega) (by omega) ⟨awake_all⟩ ⟨congrArg some ok_f1⟩ ⟨congrArg some ok_f2⟩ ⟨congrArg some ok_f3⟩ ⟨congrArg some ok_f4⟩

end Go.Proofs.Ytikfpihapdabfaa.RecordFormsMath
