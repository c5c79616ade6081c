/- The law WireForms answers true at any two numbers: an operation with any of these parts may not be, and is not written. No condition. -/
import Derived.Test.YtmefhlaeeaockaaWireFormsWalk
namespace Go.Proofs.Ytmefhlaeeaockaa.FormsMath
open Go.RowKit Go.Proofs.Ytmefhlaeeaockaa.QWireForms Go.Proofs.Ytmefhlaeeaockaa.FormsW Go.Proofs.YtmefhlaeeaockaaW.PrintWords Go.Proofs.YtmefhlaeeaockaaW.PrintLast Go.Proofs.YtmefhlaeeaockaaW.PrintMore
set_option linter.unusedVariables false
set_option linter.unusedSimpArgs false

/-! ### base -/
theorem wf_i64 {a : Int} (h : (Lit.int .i64 a).wf = true) : -9223372036854775808 ≤ a ∧ a ≤ 9223372036854775807 := by
  simpa [Lit.wf, IntKind.min, IntKind.max, IntKind.signed, IntKind.bits] using h
theorem wrap64_id {n : Int} (h1 : -9223372036854775808 ≤ n) (h2 : n ≤ 9223372036854775807) : wrap64 n = n := by
  unfold wrap64; omega
theorem toNat_ofInt64 (a : Int) : ((BitVec.ofInt 64 a).toNat : Int) = a % 18446744073709551616 := by
  rw [BitVec.toNat_ofInt]
  have h : (0 : Int) ≤ a % ((2 ^ 64 : Nat) : Int) := Int.emod_nonneg _ (by decide)
  rw [Int.toNat_of_nonneg h]; rfl
theorem wrap_i64_nat (n : Nat) (h : n < 9223372036854775808) : IntKind.i64.wrap (n : Int) = (n : Int) := by
  rw [IntKind.wrap_i64]; omega
theorem and_mask (a : Int) (j : Nat) (hj : j ≤ 63) : Go.bits .and .i64 a (2 ^ j - 1) = a % 2 ^ j := by
  have hp : 2 ^ j ≤ 2 ^ 63 := Nat.pow_le_pow_right (by decide) hj
  have hpos : 0 < 2 ^ j := Nat.two_pow_pos j
  have hc : ((2 : Int) ^ j - 1) = ((2 ^ j - 1 : Nat) : Int) := by
    rw [Int.natCast_sub hpos]; simp
  have hd : (2 : Int) ^ j ∣ 18446744073709551616 := ⟨2 ^ (64 - j), by rw [← Int.pow_add]; rw [show j + (64 - j) = 64 by omega]; rfl⟩
  show IntKind.i64.wrap (((BitVec.ofInt 64 a &&& BitVec.ofInt 64 (2 ^ j - 1)).toNat : Nat) : Int) = _
  rw [BitVec.toNat_and, hc, BitVec.ofInt_natCast, BitVec.toNat_ofNat, Nat.mod_eq_of_lt (Nat.lt_of_lt_of_le (Nat.sub_lt hpos (by decide)) (Nat.le_trans hp (by decide))), Nat.and_two_pow_sub_one_eq_mod]
  rw [wrap_i64_nat _ (Nat.lt_of_lt_of_le (Nat.mod_lt _ hpos) hp), Int.natCast_emod, toNat_ofInt64, Int.natCast_pow]
  exact Int.emod_emod_of_dvd a hd
theorem and_m (a : Int) (j : Nat) (m p : Int) (hj : j ≤ 63) (hp : (2 : Int) ^ j = p) (hm : m = p - 1) : Go.bits .and .i64 a m = a % p := by
  subst hm; rw [← hp]; exact and_mask a j hj

/-! ### bytes -/
def L (s : ByteArray) : List Nat := s.data.toList.map UInt8.toNat
theorem L_len (s : ByteArray) : (L s).length = s.size := by unfold L; simp
theorem L_append (a b : ByteArray) : L (a ++ b) = L a ++ L b := by unfold L; simp [ByteArray.data_append]
theorem L_extract (s : ByteArray) (i j : Nat) : L (s.extract i j) = ((L s).take j).drop i := by
  unfold L; rw [ByteArray.data_extract, Array.toList_extract, List.extract_eq_take_drop]
  rw [List.map_take, List.map_drop, List.drop_take]
theorem L_lt (s : ByteArray) : ∀ x ∈ L s, x < 256 := by
  intro x hx
  unfold L at hx
  obtain ⟨b, _, rfl⟩ := List.mem_map.1 hx
  exact b.toNat_lt
theorem L_inj {s t : ByteArray} (h : L s = L t) : s = t := by
  unfold L at h
  have hi : Function.Injective UInt8.toNat := fun a b h => UInt8.toNat_inj.1 h
  have := (List.map_inj_right (fun a b h => hi h)).1 h
  cases s; cases t
  congr 1
  exact Array.toList_inj.1 this
theorem bt_L (s : ByteArray) (i : Int) : bt s i = (((L s).getD i.toNat 0 : Nat) : Int) := by
  unfold bt L
  by_cases h : i.toNat < s.size
  · rw [dif_pos h, List.getD_eq_getElem?_getD, List.getElem?_map, List.getElem?_eq_getElem (by simpa using h)]
    simp; rfl
  · rw [dif_neg h, List.getD_eq_getElem?_getD, List.getElem?_eq_none (by simpa using h)]
    simp
theorem L_mk (l : List UInt8) : L ⟨l.toArray⟩ = l.map UInt8.toNat := by unfold L; simp
theorem L_str (xs : List Nat) (h : ∀ x ∈ xs, x < 256) : L (strOfNums (xs.map fun n : Nat => (n : Int))) = xs := by
  unfold strOfNums L
  simp only [List.map_map]
  conv => rhs; rw [← List.map_id xs]
  apply List.map_congr_left
  intro x hx
  have := h x hx
  simp [Function.comp]
  omega
theorem eq_of_toList {s t : ByteArray} (h : s.toList = t.toList) : s = t := by
  rw [ByteArray.toList_eq, ByteArray.toList_eq] at h
  cases s; cases t
  congr 1
  exact Array.toList_inj.1 h
theorem toList_beq (s t : ByteArray) : (s.toList == t.toList) = decide (L s = L t) := by
  by_cases h : s = t
  · subst h; simp
  · have h1 : ¬ s.toList = t.toList := fun e => h (eq_of_toList e)
    have h2 : ¬ L s = L t := fun e => h (L_inj e)
    simp [h1, h2]
theorem L_toList (s : ByteArray) : s.toList.map UInt8.toNat = L s := by rw [ByteArray.toList_eq]; rfl
theorem toList_lit (s : ByteArray) (l : List UInt8) : (s.toList = l) ↔ L s = l.map UInt8.toNat := by
  constructor
  · rintro rfl; rw [L_toList]
  · intro h
    rw [← L_toList] at h
    exact (List.map_inj_right (fun a b h => UInt8.toNat_inj.1 h)).1 h
attribute [local irreducible] L bt

/-! ### vmath -/
def enc (u : Nat) : List Nat := if h : u < 128 then [u] else (u % 128 + 128) :: enc (u / 128)
termination_by u
def zig (x : Int) : Nat := if 0 ≤ x then (2 * x).toNat else (-2 * x - 1).toNat
def unzig (u : Nat) : Int := if u % 2 = 0 then ((u / 2 : Nat) : Int) else -((u / 2 : Nat) : Int) - 1
def fin : List Nat → Nat
  | [] => 0
  | b :: r => if b < 128 then 1 else if fin r = 0 then 0 else fin r + 1
def val : List Nat → Nat
  | [] => 0
  | b :: r => b % 128 + 128 * val r
def getS (l : List Nat) (p : Int) : Int × Int × Int :=
  if fin (l.take 10) = 0 then (if l.length < 10 then (0, 0, 701) else (0, 0, 700))
  else if (fin (l.take 10) = 10 ∧ 1 < l.getD 9 0) ∨ (1 < fin (l.take 10) ∧ l.getD (fin (l.take 10) - 1) 0 = 0) then (0, 0, 700)
  else (unzig (val (l.take (fin (l.take 10)))), p + fin (l.take 10), 0)
theorem enc_small {u : Nat} (h : u < 128) : enc u = [u] := by rw [enc]; rw [dif_pos h]
theorem enc_big {u : Nat} (h : ¬ u < 128) : enc u = (u % 128 + 128) :: enc (u / 128) := by rw [enc]; rw [dif_neg h]
theorem enc_pos (u : Nat) : 1 ≤ (enc u).length := by
  by_cases h : u < 128
  · rw [enc_small h]; simp
  · rw [enc_big h]; simp
theorem enc_ne (u : Nat) : enc u ≠ [] := by
  have := enc_pos u
  intro h; rw [h] at this; simp at this
theorem enc_lt (n : Nat) : ∀ u, u < 128 ^ n → ∀ x ∈ enc u, x < 256 := by
  induction n with
  | zero => intro u hu x hx; rw [enc_small (by omega)] at hx; simp at hx; omega
  | succ n ih =>
    intro u hu x hx
    by_cases h : u < 128
    · rw [enc_small h] at hx; simp at hx; omega
    · rw [enc_big h] at hx
      rcases List.mem_cons.1 hx with rfl | hx
      · omega
      · exact ih (u / 128) (by rw [Nat.pow_succ] at hu; omega) x hx
theorem enc_len (n : Nat) : ∀ u, u < 128 ^ (n + 1) → (n = 0 ∨ 128 ^ n ≤ u) → (enc u).length = n + 1 := by
  induction n with
  | zero => intro u hu _; rw [enc_small (by simpa using hu)]; rfl
  | succ n ih =>
    intro u hu hl
    have hl : 128 ^ (n + 1) ≤ u := by omega
    have h1 : 1 ≤ 128 ^ n := Nat.pow_pos (by decide)
    rw [Nat.pow_succ] at hl hu
    rw [enc_big (by omega)]
    simp only [List.length_cons]
    rw [ih (u / 128) (by omega) (by omega)]
theorem enc_le (n : Nat) : ∀ u, u < 128 ^ (n + 1) → (enc u).length ≤ n + 1 := by
  induction n with
  | zero => intro u hu; rw [enc_small (by simpa using hu)]; simp
  | succ n ih =>
    intro u hu
    by_cases h : u < 128
    · rw [enc_small h]; simp
    · rw [enc_big h]
      rw [Nat.pow_succ] at hu
      have := ih (u / 128) (by omega)
      simp only [List.length_cons]; omega
theorem enc_len10 {u : Nat} (h : u < 18446744073709551616) : (enc u).length ≤ 10 := enc_le 9 u (Nat.lt_of_lt_of_le h (by decide))
theorem fin_enc (r : List Nat) (n : Nat) : ∀ u, u < 128 ^ n → fin (enc u ++ r) = (enc u).length := by
  induction n with
  | zero => intro u hu; rw [enc_small (by omega)]; simp [fin]; omega
  | succ n ih =>
    intro u hu
    by_cases h : u < 128
    · rw [enc_small h]; simp [fin]; omega
    · rw [enc_big h]
      rw [Nat.pow_succ] at hu
      have e := ih (u / 128) (by omega)
      have hp := enc_pos (u / 128)
      simp only [List.cons_append, fin, e, List.length_cons]
      rw [if_neg (by omega), if_neg (by omega)]
theorem fin_cut (n : Nat) : ∀ u, u < 128 ^ n → ∀ m, m < (enc u).length → fin ((enc u).take m) = 0 := by
  induction n with
  | zero => intro u hu m hm; rw [enc_small (by omega)] at *; simp at hm; subst hm; rfl
  | succ n ih =>
    intro u hu m hm
    by_cases h : u < 128
    · rw [enc_small h] at *; simp at hm; subst hm; rfl
    · rw [enc_big h] at *
      rw [Nat.pow_succ] at hu
      cases m with
      | zero => rfl
      | succ m =>
        simp only [List.length_cons] at hm
        have e := ih (u / 128) (by omega) m (by omega)
        simp only [List.take_succ_cons, fin, e]
        rw [if_neg (by omega)]; rfl
theorem val_enc (n : Nat) : ∀ u, u < 128 ^ n → val (enc u) = u := by
  induction n with
  | zero => intro u hu; rw [enc_small (by omega)]; simp [val]; omega
  | succ n ih =>
    intro u hu
    by_cases h : u < 128
    · rw [enc_small h]; simp [val]; omega
    · rw [enc_big h]
      rw [Nat.pow_succ] at hu
      simp only [val, ih (u / 128) (by omega)]; omega
theorem val_lt (l : List Nat) : val l < 128 ^ l.length := by
  induction l with
  | nil => simp [val]
  | cons b r ih => simp only [val, List.length_cons, Nat.pow_succ]; omega
theorem val_app (a b : List Nat) : val (a ++ b) = val a + 128 ^ a.length * val b := by
  induction a with
  | nil => simp [val]
  | cons x r ih =>
    simp only [List.cons_append, val, ih, List.length_cons, Nat.pow_succ]
    rw [Nat.mul_add, ← Nat.mul_assoc, Nat.mul_comm 128 (128 ^ r.length)]; omega
theorem fin_le (l : List Nat) : fin l ≤ l.length := by
  induction l with
  | nil => simp [fin]
  | cons b r ih => simp only [fin, List.length_cons]; split <;> (try split) <;> omega
theorem val_bound (l : List Nat) (h0 : fin (l.take 10) ≠ 0) (hc : ¬ ((fin (l.take 10) = 10 ∧ 1 < l.getD 9 0) ∨ (1 < fin (l.take 10) ∧ l.getD (fin (l.take 10) - 1) 0 = 0))) :
    val (l.take (fin (l.take 10))) < 18446744073709551616 := by
  have hf := fin_le (l.take 10)
  rw [List.length_take] at hf
  generalize fin (l.take 10) = n at *
  have e9 : (128 : Nat) ^ 9 = 9223372036854775808 := by decide
  by_cases c : n = 10
  · subst c
    have h9 : ¬ 1 < l.getD 9 0 := fun z => hc (Or.inl ⟨rfl, z⟩)
    have hl : 9 < l.length := by omega
    rw [List.take_succ_eq_append_getElem hl, val_app]
    have hv := val_lt (l.take 9)
    rw [List.length_take, Nat.min_eq_left (by omega), e9] at hv
    rw [List.getD_eq_getElem?_getD, List.getElem?_eq_getElem hl] at h9
    simp only [Option.getD_some] at h9
    rw [List.length_take, Nat.min_eq_left (by omega), e9]
    simp only [val]
    omega
  · have hv := val_lt (l.take n)
    have : 128 ^ (l.take n).length ≤ 128 ^ 9 := Nat.pow_le_pow_right (by decide) (by rw [List.length_take]; omega)
    omega
/-- The last byte of a number's bytes. -/
theorem enc_last (n : Nat) : ∀ u, u < 128 ^ n → ∀ r, (enc u ++ r).getD ((enc u).length - 1) 0 = u / 128 ^ ((enc u).length - 1) ∧ (1 < (enc u).length → 1 ≤ u / 128 ^ ((enc u).length - 1)) := by
  induction n with
  | zero => intro u hu r; rw [enc_small (by omega)]; simp
  | succ n ih =>
    intro u hu r
    by_cases h : u < 128
    · rw [enc_small h]; simp
    · have hp := enc_pos (u / 128)
      rw [Nat.pow_succ] at hu
      obtain ⟨e1, e2⟩ := ih (u / 128) (by omega) r
      rw [enc_big h]
      simp only [List.length_cons, Nat.add_sub_cancel, List.cons_append]
      have hk : (enc (u / 128)).length = ((enc (u / 128)).length - 1) + 1 := by omega
      have hq : u / 128 ^ (enc (u / 128)).length = u / 128 / 128 ^ ((enc (u / 128)).length - 1) := by
        conv => lhs; rw [hk]
        rw [Nat.pow_succ, Nat.mul_comm, Nat.div_div_eq_div_mul]
      constructor
      · rw [hq, ← e1]
        conv => lhs; rw [hk]
        rw [List.getD_cons_succ]
      · intro _
        rw [hq]
        by_cases c : 1 < (enc (u / 128)).length
        · exact e2 c
        · have : (enc (u / 128)).length - 1 = 0 := by omega
          rw [this]; simp; omega
theorem getS_enc {u : Nat} (hu : u < 18446744073709551616) (r : List Nat) (p : Int) : getS (enc u ++ r) p = (unzig u, p + (enc u).length, 0) := by
  have hu' : u < 128 ^ 10 := Nat.lt_of_lt_of_le hu (by decide)
  have h10 := enc_len10 hu
  have hp := enc_pos u
  have hf : fin ((enc u ++ r).take 10) = (enc u).length := by
    rw [List.take_append, List.take_of_length_le h10]
    exact fin_enc _ 10 u hu'
  obtain ⟨l1, l2⟩ := enc_last 10 u hu' r
  unfold getS
  rw [hf, if_neg (by omega), if_neg]
  · rw [List.take_left, val_enc 10 u hu']
  · rintro (⟨h1, h2⟩ | ⟨h1, h2⟩)
    · rw [h1] at l1
      have : u / 128 ^ (10 - 1) ≤ 1 := by
        have : u / 128 ^ (10 - 1) < 2 := Nat.div_lt_of_lt_mul (by simpa using hu)
        omega
      have : (enc u ++ r).getD 9 0 = u / 128 ^ (10 - 1) := l1
      omega
    · rw [l1] at h2
      have := l2 h1
      omega
theorem enc_of (l : List Nat) : (∀ x ∈ l, x < 256) → fin l = l.length → 1 ≤ l.length → (l.length = 1 ∨ l.getD (l.length - 1) 0 ≠ 0) → enc (val l) = l := by
  induction l with
  | nil => intro _ _ h; simp at h
  | cons b r ih =>
    intro hb hf h1 hl
    have hb0 := hb b (List.mem_cons_self ..)
    cases r with
    | nil =>
      have : b < 128 := by
        by_cases c : b < 128
        · exact c
        · simp [fin, c] at hf
      simp only [val]
      rw [enc_small (by omega)]; congr 1; omega
    | cons c r =>
      have hbig : ¬ b < 128 := by
        intro c'; simp [fin, c'] at hf
      have hf' : fin (c :: r) = (c :: r).length := by
        rw [fin, if_neg hbig] at hf
        by_cases z : fin (c :: r) = 0
        · rw [if_pos z] at hf; simp at hf
        · rw [if_neg z] at hf; simpa using hf
      have hl' : (c :: r).length = 1 ∨ (c :: r).getD ((c :: r).length - 1) 0 ≠ 0 := by
        rcases hl with hl | hl
        · simp at hl
        · refine Or.inr ?_
          simpa using hl
      have e := ih (fun x hx => hb x (List.mem_cons_of_mem _ hx)) hf' (by simp) hl'
      have hv : val (c :: r) ≠ 0 := by
        intro z
        rw [z, enc_small (by decide)] at e
        have : c = 0 ∧ r = [] := by simpa using e.symm
        obtain ⟨rfl, rfl⟩ := this
        rcases hl with hl | hl
        · simp at hl
        · simp at hl
      have ev : val (b :: c :: r) = b % 128 + 128 * val (c :: r) := rfl
      rw [ev, enc_big (by omega)]
      rw [show (b % 128 + 128 * val (c :: r)) / 128 = val (c :: r) by omega, e]
      congr 1; omega
theorem fin_take (l : List Nat) : fin l ≠ 0 → fin (l.take (fin l)) = fin l := by
  induction l with
  | nil => intro h; simp [fin] at h
  | cons b r ih =>
    intro h
    by_cases c : b < 128
    · have : fin (b :: r) = 1 := by simp [fin, c]
      rw [this]; simp [fin, c]
    · by_cases z : fin r = 0
      · exfalso; apply h; simp [fin, c, z]
      · have e : fin (b :: r) = fin r + 1 := by simp [fin, c, z]
        rw [e, List.take_succ_cons]
        simp [fin, c, ih z, z]
theorem getS_ok {l : List Nat} {p x q : Int} (hb : ∀ y ∈ l, y < 256) (h : getS l p = (x, q, 0)) :
    ∃ u r, u < 18446744073709551616 ∧ l = enc u ++ r ∧ x = unzig u ∧ q = p + (enc u).length := by
  unfold getS at h
  by_cases h0 : fin (l.take 10) = 0
  · rw [if_pos h0] at h
    split at h <;> simp at h
  · rw [if_neg h0] at h
    by_cases hc : (fin (l.take 10) = 10 ∧ 1 < l.getD 9 0) ∨ (1 < fin (l.take 10) ∧ l.getD (fin (l.take 10) - 1) 0 = 0)
    · rw [if_pos hc] at h; simp at h
    · rw [if_neg hc] at h
      simp only [Prod.mk.injEq] at h
      obtain ⟨h1, h2, _⟩ := h
      have hvb := val_bound l h0 hc
      generalize hn : fin (l.take 10) = n at *
      have hle : n ≤ 10 := by
        have := fin_le (l.take 10)
        rw [List.length_take] at this; omega
      have hll : n ≤ l.length := by
        have := fin_le (l.take 10)
        rw [List.length_take] at this; omega
      have ht : (l.take n).length = n := by rw [List.length_take]; omega
      have hfn : fin (l.take n) = n := by
        have := fin_take (l.take 10) (by omega)
        rw [hn, List.take_take, Nat.min_eq_left hle] at this
        exact this
      have hlast : (l.take n).getD (n - 1) 0 = l.getD (n - 1) 0 := by
        rw [List.getD_eq_getElem?_getD, List.getD_eq_getElem?_getD, List.getElem?_take_of_lt (by omega)]
      have he : enc (val (l.take n)) = l.take n := by
        refine enc_of _ (fun y hy => hb y (List.mem_of_mem_take hy)) (by rw [hfn, ht]) (by omega) ?_
        rw [ht, hlast]
        by_cases c : n = 1
        · exact Or.inl c
        · exact Or.inr (fun z => hc (Or.inr ⟨by omega, z⟩))
      refine ⟨val (l.take n), l.drop n, ?_, ?_, h1.symm, ?_⟩
      · exact hvb
      · rw [he, List.take_append_drop]
      · rw [he, ht]; exact h2.symm
theorem getS_code (l : List Nat) (p : Int) : (getS l p).2.2 = 0 ∨ getS l p = (0, 0, 700) ∨ getS l p = (0, 0, 701) := by
  unfold getS
  split
  · split <;> simp
  · split <;> simp
theorem unzig_zig (x : Int) : unzig (zig x) = x := by
  unfold unzig zig
  by_cases h : 0 ≤ x
  · rw [if_pos h, if_pos (by omega)]; omega
  · rw [if_neg h, if_neg (by omega)]; omega
theorem zig_unzig (u : Nat) : zig (unzig u) = u := by
  unfold unzig zig
  by_cases h : u % 2 = 0
  · rw [if_pos h, if_pos (by omega)]; omega
  · rw [if_neg h, if_neg (by omega)]; omega
theorem zig_lt {x : Int} (h1 : -9223372036854775808 ≤ x) (h2 : x ≤ 9223372036854775807) : zig x < 18446744073709551616 := by
  unfold zig; split <;> omega
theorem unzig_range {u : Nat} (h : u < 18446744073709551616) : -9223372036854775808 ≤ unzig u ∧ unzig u ≤ 9223372036854775807 := by
  unfold unzig; split <;> omega
theorem getS_cut {u : Nat} (hu : u < 18446744073709551616) (m : Nat) (hm : m < (enc u).length) (p : Int) : getS ((enc u).take m) p = (0, 0, 701) := by
  have h10 := enc_len10 hu
  unfold getS
  rw [List.take_take, Nat.min_eq_right (by omega), fin_cut 10 u (Nat.lt_of_lt_of_le hu (by decide)) m hm, if_pos rfl, if_pos (by rw [List.length_take]; omega)]
theorem enc_inj {u v : Nat} (hu : u < 18446744073709551616) (hv : v < 18446744073709551616) (r t : List Nat) (h : enc u ++ r = enc v ++ t) : u = v ∧ r = t := by
  have h1 := getS_enc hu r 0
  have h2 := getS_enc hv t 0
  rw [h, h2] at h1
  simp only [Prod.mk.injEq] at h1
  have e : u = v := by rw [← zig_unzig u, ← zig_unzig v, h1.1]
  subst e
  exact ⟨rfl, List.append_cancel_left h⟩

theorem fin_small {b : Nat} (h : b < 128) (r : List Nat) : fin (b :: r) = 1 := by simp [fin, h]
theorem fin_big0 {b : Nat} (h : ¬ b < 128) {r : List Nat} (z : fin r = 0) : fin (b :: r) = 0 := by simp [fin, h, z]
theorem fin_big1 {b : Nat} (h : ¬ b < 128) {r : List Nat} (z : fin r ≠ 0) : fin (b :: r) = fin r + 1 := by simp [fin, h, z]

/-! ### vbits -/
theorem u8or_all : ∀ n : Fin 256, Go.bits .or .u8 (n.val : Int) 128 = ((n.val % 128 + 128 : Nat) : Int) := by decide +kernel
theorem u8and_all : ∀ n : Fin 256, Go.bits .and .u8 (n.val : Int) 127 = ((n.val % 128 : Nat) : Int) := by decide +kernel
theorem u8or (n : Nat) (h : n < 256) : Go.bits .or .u8 (n : Int) 128 = ((n % 128 + 128 : Nat) : Int) := u8or_all ⟨n, h⟩
theorem u8and (n : Nat) (h : n < 256) : Go.bits .and .u8 (n : Int) 127 = ((n % 128 : Nat) : Int) := u8and_all ⟨n, h⟩
theorem wrap_u64 (n : Int) : IntKind.u64.wrap n = n % 18446744073709551616 := by simp [IntKind.wrap, IntKind.bits, IntKind.signed]
theorem wrap_u64_id {n : Int} (h0 : 0 ≤ n) (h1 : n < 18446744073709551616) : IntKind.u64.wrap n = n := by rw [wrap_u64]; omega
theorem bv_nat (x : Nat) (h : x < 18446744073709551616) : (BitVec.ofInt 64 (x : Int)).toNat = x := by
  rw [BitVec.ofInt_natCast, BitVec.toNat_ofNat]; exact Nat.mod_eq_of_lt h
theorem xor64_zero (x : Nat) (h : x < 18446744073709551616) : Go.bits .xor .u64 (x : Int) 0 = (x : Int) := by
  show IntKind.u64.wrap (((BitVec.ofInt 64 (x : Int) ^^^ BitVec.ofInt 64 0).toNat : Nat) : Int) = _
  rw [show BitVec.ofInt 64 0 = 0#64 from rfl, BitVec.xor_zero, bv_nat x h, wrap_u64]; omega
theorem xor64_ones (x : Nat) (h : x < 18446744073709551616) : Go.bits .xor .u64 (x : Int) 18446744073709551615 = 18446744073709551615 - (x : Int) := by
  show IntKind.u64.wrap (((BitVec.ofInt 64 (x : Int) ^^^ BitVec.ofInt 64 18446744073709551615).toNat : Nat) : Int) = _
  rw [show BitVec.ofInt 64 18446744073709551615 = BitVec.allOnes 64 from by decide, BitVec.xor_allOnes, BitVec.toNat_not, bv_nat x h, wrap_u64]; omega
theorem xori_zero (x : Nat) (h : x < 9223372036854775808) : Go.bits .xor .i64 (x : Int) 0 = (x : Int) := by
  show IntKind.i64.wrap (((BitVec.ofInt 64 (x : Int) ^^^ BitVec.ofInt 64 0).toNat : Nat) : Int) = _
  rw [show BitVec.ofInt 64 0 = 0#64 from rfl, BitVec.xor_zero, bv_nat x (by omega), IntKind.wrap_i64]; omega
theorem xori_ones (x : Nat) (h : x < 9223372036854775808) : Go.bits .xor .i64 (x : Int) (-1) = -(x : Int) - 1 := by
  show IntKind.i64.wrap (((BitVec.ofInt 64 (x : Int) ^^^ BitVec.ofInt 64 (-1)).toNat : Nat) : Int) = _
  rw [show BitVec.ofInt 64 (-1) = BitVec.allOnes 64 from by decide, BitVec.xor_allOnes, BitVec.toNat_not, bv_nat x (by omega), IntKind.wrap_i64]; omega
theorem and64_one (x : Nat) (h : x < 18446744073709551616) : Go.bits .and .u64 (x : Int) 1 = ((x % 2 : Nat) : Int) := by
  have := bits_mask .u64 64 (Nat.le_refl _) (fun n h0 h1 => wrap_u64_id h0 (by simpa using h1)) 1 (by decide) (x : Int) (by omega) (by simpa using Int.ofNat_lt.2 h)
  simpa using this
theorem or64 (x y : Nat) (hx : x < 18446744073709551616) (hd : x % 128 = 0) (hy : y < 128) : Go.bits .or .u64 (x : Int) (y : Int) = ((x + y : Nat) : Int) := by
  have := bits_join .u64 64 (Nat.le_refl _) (fun n h0 h1 => wrap_u64_id h0 (by simpa using h1)) 7 (x : Int) (y : Int) (by omega) (by simp; omega) (by simpa using Int.ofNat_lt.2 hx) (by omega) (by simp; omega) (by simp; omega)
  rw [this]; simp
/-- Bytes of small numbers. -/
def S (l : List Nat) : ByteArray := strOfNums (l.map fun n : Nat => (n : Int))
theorem L_S {l : List Nat} (h : ∀ x ∈ l, x < 256) : L (S l) = l := L_str l h
theorem put_u {x : Int} (h1 : -9223372036854775808 ≤ x) (h2 : x ≤ 9223372036854775807) :
    Go.bits .xor .u64 (IntKind.u64.wrap ((IntKind.u64.wrap x) * 2)) (IntKind.u64.wrap (x / 9223372036854775808)) = ((zig x : Nat) : Int) := by
  unfold zig
  by_cases h : 0 ≤ x
  · have e1 : IntKind.u64.wrap (x / 9223372036854775808) = 0 := by rw [wrap_u64]; omega
    have e2 : IntKind.u64.wrap ((IntKind.u64.wrap x) * 2) = (((2 * x).toNat : Nat) : Int) := by rw [wrap_u64, wrap_u64]; omega
    rw [e1, e2, xor64_zero _ (by omega), if_pos h]
  · have e1 : IntKind.u64.wrap (x / 9223372036854775808) = 18446744073709551615 := by rw [wrap_u64]; omega
    have e2 : IntKind.u64.wrap ((IntKind.u64.wrap x) * 2) = (((2 * x + 18446744073709551616).toNat : Nat) : Int) := by rw [wrap_u64, wrap_u64]; omega
    rw [e1, e2, xor64_ones _ (by omega), if_neg h]; omega
theorem xor64_ones' (x : Nat) (h : x < 18446744073709551616) : Go.bits .xor .u64 18446744073709551615 (x : Int) = 18446744073709551615 - (x : Int) := by
  show IntKind.u64.wrap (((BitVec.ofInt 64 18446744073709551615 ^^^ BitVec.ofInt 64 (x : Int)).toNat : Nat) : Int) = _
  rw [show BitVec.ofInt 64 18446744073709551615 = BitVec.allOnes 64 from by decide, BitVec.xor_comm, BitVec.xor_allOnes, BitVec.toNat_not, bv_nat x h, wrap_u64]; omega
theorem or128u_all : ∀ n : Fin 128, (Go.bits .or .u64 (n.val : Int) 128) % 256 = ((n.val + 128 : Nat) : Int) := by decide +kernel
theorem and127u (x : Nat) (h : x < 18446744073709551616) : Go.bits .and .u64 (x : Int) 127 = ((x % 128 : Nat) : Int) := by
  have := bits_mask .u64 64 (Nat.le_refl _) (fun n h0 h1 => wrap_u64_id h0 (by simpa using h1)) 7 (by decide) (x : Int) (by omega) (by simpa using Int.ofNat_lt.2 h)
  simpa using this
theorem fin_app0 (b : Nat) (hb : ¬ b < 128) : ∀ l, fin l = 0 → fin (l ++ [b]) = 0 := by
  intro l
  induction l with
  | nil => intro _; simp [fin, hb]
  | cons c r ih =>
    intro h
    by_cases c1 : c < 128
    · simp [fin, c1] at h
    · have hr : fin r = 0 := by
        by_cases z : fin r = 0
        · exact z
        · simp [fin, c1, z] at h
      simp [fin, c1, ih hr]
theorem fin_app1 (b : Nat) (hb : b < 128) (t : List Nat) : ∀ l, fin l = 0 → fin (l ++ b :: t) = l.length + 1 := by
  intro l
  induction l with
  | nil => intro _; simp [fin, hb]
  | cons c r ih =>
    intro h
    by_cases c1 : c < 128
    · simp [fin, c1] at h
    · have hr : fin r = 0 := by
        by_cases z : fin r = 0
        · exact z
        · simp [fin, c1, z] at h
      simp [fin, c1, ih hr]

/-! ### vcode -/
theorem put_l0 (n : Nat) : ∀ (u : Nat) (acc : List Nat), u < 128 ^ (n + 1) → acc.length + n + 1 < 140737488355328 → ∀ k, n < k → varint_Put.l0 k (u : Int) (acc.map fun n : Nat => (n : Int)) = some (S (acc ++ enc u)) := by
  induction n with
  | zero =>
    intro u acc hu hl k hk
    obtain ⟨k, rfl⟩ : ∃ m, k = m + 1 := ⟨k - 1, by omega⟩
    have hu : u < 128 := by simpa using hu
    simp only [varint_Put.l0]
    rw [if_neg (by omega), List.length_map, if_pos (by omega), enc_small hu]
    rw [show (u : Int) % 256 = (u : Int) by omega]
    simp [S]
  | succ n ih =>
    intro u acc hu hl k hk
    obtain ⟨k, rfl⟩ : ∃ m, k = m + 1 := ⟨k - 1, by omega⟩
    simp only [varint_Put.l0]
    by_cases h : u < 128
    · rw [if_neg (by omega), List.length_map, if_pos (by omega), enc_small h]
      rw [show (u : Int) % 256 = (u : Int) by omega]
      simp [S]
    · rw [if_pos (by omega), List.length_map, if_pos (by omega)]
      have e1 : (u : Int) / 128 = ((u / 128 : Nat) : Int) := by omega
      have e2 : (u : Int) % 256 = ((u % 256 : Nat) : Int) := by omega
      rw [e1, e2, u8or _ (by omega), enc_big h]
      have e3 : u % 256 % 128 + 128 = u % 128 + 128 := by omega
      rw [e3]
      rw [Nat.pow_succ] at hu
      have := ih (u / 128) (acc ++ [u % 128 + 128]) (by omega) (by simp; omega) k (by omega)
      rw [List.map_append] at this
      simp only [List.map_cons, List.map_nil] at this
      rw [this, List.append_assoc]; rfl
theorem put_ev {x : Int} (h1 : -9223372036854775808 ≤ x) (h2 : x ≤ 9223372036854775807) : ∀ k, 11 ≤ k → varint_Put.f k x = some (S (enc (zig x))) := by
  intro k hk
  unfold varint_Put.f
  rw [put_u h1 h2]
  exact put_l0 9 (zig x) [] (Nat.lt_of_lt_of_le (zig_lt h1 h2) (by decide)) (by simp) k (by omega)
theorem L_put {x : Int} (h1 : -9223372036854775808 ≤ x) (h2 : x ≤ 9223372036854775807) : L (S (enc (zig x))) = enc (zig x) :=
  L_S (enc_lt 10 _ (Nat.lt_of_lt_of_le (zig_lt h1 h2) (by decide)))
def eo (n i : Nat) : Nat := if n = 0 then 0 else i + n
theorem eo_zero (i : Nat) : eo 0 i = 0 := rfl
theorem eo_pos {n : Nat} (h : n ≠ 0) (i : Nat) : eo n i = i + n := by unfold eo; rw [if_neg h]
theorem ends_l0 (s : ByteArray) (m : Nat) (hm : m ≤ s.size) (h10 : m ≤ 10) (d : Nat) : ∀ (i k : Nat), m - i = d → i ≤ m → d < k →
    varint_ends.l0 k s (m : Int) (i : Int) = some ((eo (fin (((L s).take m).drop i)) i : Nat) : Int) := by
  have hlen := L_len s
  induction d with
  | zero =>
    intro i k hd hi hk
    obtain ⟨k, rfl⟩ : ∃ m, k = m + 1 := ⟨k - 1, by omega⟩
    obtain rfl : i = m := by omega
    simp only [varint_ends.l0]
    rw [if_neg (by omega), List.drop_eq_nil_of_le (by rw [List.length_take]; omega)]
    rfl
  | succ d ih =>
    intro i k hd hi hk
    obtain ⟨k, rfl⟩ : ∃ m, k = m + 1 := ⟨k - 1, by omega⟩
    simp only [varint_ends.l0]
    have hlt : i < ((L s).take m).length := by rw [List.length_take]; omega
    rw [if_pos (by omega), if_pos (by omega), if_pos (by omega), List.drop_eq_getElem_cons hlt]
    have hb : bt s (i : Int) = ((((L s).take m)[i] : Nat) : Int) := by
      rw [bt_L, Int.toNat_natCast, List.getElem_take, List.getD_eq_getElem?_getD, List.getElem?_eq_getElem (by omega)]; rfl
    have hw : wrap64 ((i : Int) + 1) = ((i + 1 : Nat) : Int) := by rw [wrap64_id (by omega) (by omega)]; omega
    rw [hb, hw]
    clear hb hw
    by_cases c : ((L s).take m)[i] < 128
    · have hc : ((((L s).take m)[i] : Nat) : Int) < 128 := by omega
      have e := fin_small c (List.drop (i + 1) (List.take m (L s)))
      rw [if_pos hc, e, eo_pos (by decide)]
    · have hc : ¬ ((((L s).take m)[i] : Nat) : Int) < 128 := by omega
      rw [if_neg hc, ih (i + 1) k (by omega) (by omega) (by omega)]
      by_cases z : fin (((L s).take m).drop (i + 1)) = 0
      · have e := fin_big0 c z
        rw [e, z, eo_zero, eo_zero]
      · have e := fin_big1 c z
        rw [e, eo_pos z, eo_pos (by omega)]
        congr 2; omega
theorem ends_ev (s : ByteArray) : ∀ k, 12 ≤ k → varint_ends.f k s = some ((fin ((L s).take 10) : Nat) : Int) := by
  intro k hk
  have hlen := L_len s
  unfold varint_ends.f
  have hm : mn (s.size : Int) 10 = ((min s.size 10 : Nat) : Int) := by unfold mn; split <;> omega
  rw [hm, show (0 : Int) = ((0 : Nat) : Int) from rfl, ends_l0 s (min s.size 10) (by omega) (by omega) (min s.size 10) 0 k (by omega) (by omega) (by omega)]
  rw [List.drop_zero]
  have ht : (L s).take (min s.size 10) = (L s).take 10 := by
    by_cases c : s.size ≤ 10
    · rw [Nat.min_eq_left c, List.take_of_length_le (by omega), List.take_of_length_le (by omega)]
    · rw [Nat.min_eq_right (by omega)]
  rw [ht]
  by_cases z : fin ((L s).take 10) = 0
  · rw [z, eo_zero]
  · rw [eo_pos z, Nat.zero_add]
theorem val_drop (l : List Nat) : ∀ i, val (l.drop i) ≤ val l := by
  induction l with
  | nil => intro i; simp
  | cons b r ih =>
    intro i
    cases i with
    | zero => simp
    | succ i => have := ih i; simp only [List.drop_succ_cons, val]; omega
theorem get_l0 (s : ByteArray) (p n : Nat) (hn : n ≤ 10) (hp : p + n ≤ s.size) (hs : s.size ≤ 4611686018427387904) (hv : val (((L s).drop p).take n) < 18446744073709551616) :
    ∀ i k, i ≤ n → i < k → varint_Get.l0 k s (p : Int) (n : Int) ((val ((((L s).drop p).take n).drop i) : Nat) : Int) ((i : Int) - 1) = some (unzig (val (((L s).drop p).take n)), ((p + n : Nat) : Int), 0) := by
  have hlen := L_len s
  intro i
  induction i with
  | zero =>
    intro k _ hk
    obtain ⟨k, rfl⟩ : ∃ m, k = m + 1 := ⟨k - 1, by omega⟩
    simp only [varint_Get.l0]
    rw [if_neg (by omega), List.drop_zero]
    generalize val (((L s).drop p).take n) = u at *
    rw [and64_one u hv, wrap64_id (n := (p : Int) + (n : Int)) (by omega) (by omega), show (u : Int) / 2 = ((u / 2 : Nat) : Int) by omega, wrap64_id (n := ((u / 2 : Nat) : Int)) (by omega) (by omega)]
    unfold unzig
    by_cases c : u % 2 = 0
    · rw [if_pos c, c]
      rw [show wrap64 (-(wrap64 ((0 : Nat) : Int))) = 0 from by decide +kernel, xori_zero _ (by omega)]; simp
    · rw [if_neg c, show u % 2 = 1 by omega]
      rw [show wrap64 (-(wrap64 ((1 : Nat) : Int))) = -1 from by decide +kernel, xori_ones _ (by omega)]; simp
  | succ i ih =>
    intro k hi hk
    obtain ⟨k, rfl⟩ : ∃ m, k = m + 1 := ⟨k - 1, by omega⟩
    simp only [varint_Get.l0]
    have e0 : ((i + 1 : Nat) : Int) - 1 = (i : Int) := by omega
    have e1 : wrap64 ((p : Int) + (i : Int)) = ((p + i : Nat) : Int) := by rw [wrap64_id (by omega) (by omega)]; omega
    have e2 : wrap64 ((i : Int) - 1) = (i : Int) - 1 := wrap64_id (by omega) (by omega)
    rw [e0, e1, e2, if_pos (by omega), if_pos (by omega), if_pos (by omega)]
    have hlt : i < (((L s).drop p).take n).length := by rw [List.length_take, List.length_drop]; omega
    have hd := val_drop (((L s).drop p).take n) i
    have ih := ih k (by omega) (by omega)
    rw [List.drop_eq_getElem_cons hlt] at hd ih
    have hb : bt s ((p + i : Nat) : Int) = (((((L s).drop p).take n)[i] : Nat) : Int) := by
      rw [bt_L, Int.toNat_natCast, List.getElem_take, List.getElem_drop, List.getD_eq_getElem?_getD, List.getElem?_eq_getElem (by omega)]; rfl
    have hb2 : (((L s).drop p).take n)[i] < 256 := L_lt s _ (List.mem_of_mem_drop (List.mem_of_mem_take (List.getElem_mem hlt)))
    rw [hb]
    clear hb
    generalize (((L s).drop p).take n)[i] = b at *
    simp only [val] at hd ih
    generalize val ((((L s).drop p).take n).drop (i + 1)) = u at *
    rw [u8and b hb2, wrap_u64_id (n := (u : Int) * 128) (by omega) (by omega), wrap_u64_id (n := ((b % 128 : Nat) : Int)) (by omega) (by omega)]
    rw [show (u : Int) * 128 = ((u * 128 : Nat) : Int) by omega, or64 _ _ (by omega) (by omega) (by omega)]
    rw [show u * 128 + b % 128 = b % 128 + 128 * u by omega]
    exact ih
theorem w_last (p j : Nat) (h : p + j ≤ 4611686018427387904) : wrap64 (wrap64 ((p : Int) + ((j + 1 : Nat) : Int)) - 1) = ((p + j : Nat) : Int) := by
  rw [wrap64_id (n := (p : Int) + ((j + 1 : Nat) : Int)) (by omega) (by omega), wrap64_id (by omega) (by omega)]; omega
theorem w_1p (n : Nat) (h : n ≤ 4611686018427387904) : wrap64 (1 + (n : Int)) = ((n + 1 : Nat) : Int) := by
  rw [wrap64_id (by omega) (by omega)]; omega
theorem w_p1 (n : Nat) (h : n ≤ 4611686018427387904) : wrap64 ((n : Int) + 1) = ((n + 1 : Nat) : Int) := by
  rw [wrap64_id (by omega) (by omega)]; omega
theorem w_m1 (n : Nat) (h : n ≤ 4611686018427387904) (h1 : 1 ≤ n) : wrap64 ((n : Int) - 1) = ((n - 1 : Nat) : Int) := by
  rw [wrap64_id (by omega) (by omega)]; omega
theorem w_add (n p : Nat) (h : n + p ≤ 4611686018427387904) : wrap64 ((n : Int) + (p : Int)) = ((n + p : Nat) : Int) := by
  rw [wrap64_id (by omega) (by omega)]; omega
theorem w_sub (n p : Nat) (h : n ≤ 4611686018427387904) (hp : p ≤ n) : wrap64 ((n : Int) - (p : Int)) = ((n - p : Nat) : Int) := by
  rw [wrap64_id (by omega) (by omega)]; omega
theorem w_one (m : Nat) (h : m ≤ 4611686018427387904) : wrap64 (((m + 1 : Nat) : Int) - 1) = ((m + 1 : Nat) : Int) - 1 := wrap64_id (by omega) (by omega)
theorem get_ev (s : ByteArray) (p : Nat) (hp : p ≤ s.size) (hs : s.size ≤ 4611686018427387904) : ∀ k, 20 ≤ k → varint_Get.f k s (p : Int) = some (getS ((L s).drop p) (p : Int)) := by
  intro k hk
  have hlen := L_len s
  obtain ⟨k, rfl⟩ : ∃ m, k = m + 3 := ⟨k - 3, by omega⟩
  unfold varint_Get.f
  rw [if_neg (by omega), decide_eq_false (by omega)]
  simp only [varint_Get.j0]
  rw [if_neg (by decide), if_pos (by omega), if_pos (by omega), ends_ev _ _ (by omega), L_extract, List.take_of_length_le (l := L s) (i := s.size) (by omega), Int.toNat_natCast]
  simp only [Option.bind_some]
  have hll : ((L s).drop p).length = s.size - p := by rw [List.length_drop, hlen]
  rw [w_sub s.size p hs hp]
  have hf := fin_le (((L s).drop p).take 10)
  rw [List.length_take, hll] at hf
  have hvb := val_bound ((L s).drop p)
  have hget : ∀ j, j < s.size - p → bt s (wrap64 (wrap64 ((p : Int) + ((j + 1 : Nat) : Int)) - 1)) = ((((L s).drop p).getD j 0 : Nat) : Int) ∧ 0 ≤ wrap64 (wrap64 ((p : Int) + ((j + 1 : Nat) : Int)) - 1) ∧ wrap64 (wrap64 ((p : Int) + ((j + 1 : Nat) : Int)) - 1) < (s.size : Int) := by
    intro j hj
    have q : p + j ≤ 4611686018427387904 := by omega
    rw [w_last p j q]
    refine ⟨?_, by omega, by omega⟩
    rw [bt_L, Int.toNat_natCast, List.getD_eq_getElem?_getD, List.getD_eq_getElem?_getD, List.getElem?_drop]
  have hbb : ∀ j, ((L s).drop p).getD j 0 < 256 := by
    intro j
    rw [List.getD_eq_getElem?_getD]
    by_cases c : j < ((L s).drop p).length
    · rw [List.getElem?_eq_getElem c]
      exact L_lt s _ (List.mem_of_mem_drop (List.getElem_mem c))
    · rw [List.getElem?_eq_none (by omega)]; simp
  unfold getS
  rw [hll]
  generalize hl : (L s).drop p = l at *
  generalize hn : fin (l.take 10) = n at *
  by_cases h0 : n = 0
  · subst h0
    rw [if_pos (show ((0 : Nat) : Int) = 0 from rfl)]
    simp only [varint_Get.j1]
    by_cases c : s.size - p < 10
    · have c' : ((s.size - p : Nat) : Int) < 10 := by omega
      rw [decide_eq_true c', if_pos (show true = true from rfl), if_pos True.intro, if_pos c]
    · have c' : ¬ ((s.size - p : Nat) : Int) < 10 := by omega
      rw [decide_eq_false c', if_neg (show ¬ false = true by decide), if_pos (show ((0 : Nat) : Int) = 0 from rfl), if_pos True.intro, if_neg c]
  · rw [if_neg (by omega), if_neg h0]
    simp only [varint_Get.j1]
    obtain ⟨m, rfl⟩ : ∃ m, n = m + 1 := ⟨n - 1, by omega⟩
    obtain ⟨g1, g2, g3⟩ := hget m (by omega)
    rw [if_neg (by decide), if_neg (by omega), g1, if_pos g2, if_pos g3, if_pos g2, if_pos g3]
    have hfin : (¬ ((m + 1 = 10 ∧ 1 < l.getD 9 0) ∨ (1 < m + 1 ∧ l.getD (m + 1 - 1) 0 = 0))) → varint_Get.j2 (k + 1) s (p : Int) ((m + 1 : Nat) : Int) = some (unzig (val (l.take (m + 1))), (p : Int) + ((m + 1 : Nat) : Int), 0) := by
      intro hc
      simp only [varint_Get.j2]
      have hv := hvb (by omega) hc
      have := get_l0 s p (m + 1) (by omega) (by omega) hs (by rw [hl]; exact hv) (m + 1) k (by omega) (by omega)
      rw [hl, List.drop_eq_nil_of_le (by rw [List.length_take]; omega)] at this
      simp only [val] at this
      rw [w_one m (by omega)]
      rw [show ((0 : Nat) : Int) = 0 from rfl] at this
      rw [this]
      congr 3
    have hm : m + 1 - 1 = m := by omega
    by_cases c1 : m + 1 = 10
    · obtain rfl : m = 9 := by omega
      rw [if_pos (by decide)]
      by_cases c2 : 1 < l.getD 9 0
      · rw [if_pos (by omega), if_pos (Or.inl ⟨rfl, c2⟩)]
      · rw [if_neg (by omega), if_pos (by decide)]
        by_cases c3 : l.getD 9 0 = 0
        · rw [if_pos (by omega), if_pos (Or.inr ⟨by omega, c3⟩)]
        · have hc : ¬ ((9 + 1 = 10 ∧ 1 < l.getD 9 0) ∨ (1 < 9 + 1 ∧ l.getD (9 + 1 - 1) 0 = 0)) := by
            show ¬ ((10 = 10 ∧ 1 < l.getD 9 0) ∨ (1 < 10 ∧ l.getD 9 0 = 0))
            omega
          rw [if_neg (by omega), hfin hc, if_neg hc]
    · rw [if_neg (by omega)]
      by_cases c2 : 1 < m + 1
      · rw [if_pos (by omega)]
        by_cases c3 : l.getD m 0 = 0
        · rw [if_pos (by omega), if_pos (Or.inr ⟨c2, c3⟩)]
        · rw [if_neg (by omega), hfin (by rw [hm]; omega), if_neg (by rw [hm]; omega)]
      · rw [if_neg (by omega), hfin (by omega), if_neg (by omega)]
theorem get_form (s : ByteArray) (p : Int) (h : p < 0 ∨ (s.size : Int) < p) : ∀ k, 1 ≤ k → varint_Get.f k s p = some (0, 0, 700) := by
  intro k hk
  obtain ⟨k, rfl⟩ : ∃ m, k = m + 1 := ⟨k - 1, by omega⟩
  unfold varint_Get.f
  by_cases c : p < 0
  · rw [if_pos c]; simp [varint_Get.j0]
  · rw [if_neg c, decide_eq_true (by omega)]; simp [varint_Get.j0]

/-! ### wire9 -/
def rng (x : Int) : Prop := -9223372036854775808 ≤ x ∧ x ≤ 9223372036854775807
def encs : List Int → List Nat
  | [] => []
  | x :: xs => enc (zig x) ++ encs xs
theorem S_L9 (b : ByteArray) : S (L b) = b := L_inj (L_S (L_lt b))
theorem all_l0 (xs : List Int) (hr : ∀ x ∈ xs, rng x) (hx : xs.length ≤ 100) (d : Nat) : ∀ (i k : Nat) (acc : ByteArray), xs.length - i = d → i ≤ xs.length → d + 12 ≤ k → acc.size + 10 * d ≤ 4611686018427387904 →
    varint_All.l0 k acc xs (xs.length : Int) (i : Int) = some (S (L acc ++ encs (xs.drop i))) := by
  induction d with
  | zero =>
    intro i k acc hd hi hk ha
    obtain ⟨k, rfl⟩ : ∃ m, k = m + 1 := ⟨k - 1, by omega⟩
    simp only [varint_All.l0]
    rw [if_neg (by omega), List.drop_eq_nil_of_le (by omega), encs, List.append_nil, S_L9]
  | succ d ih =>
    intro i k acc hd hi hk ha
    obtain ⟨k, rfl⟩ : ∃ m, k = m + 1 := ⟨k - 1, by omega⟩
    simp only [varint_All.l0]
    have hlt : i < xs.length := by omega
    have e : rd xs (i : Int) = xs[i] := by
      unfold rd; rw [Int.toNat_natCast, List.getD_eq_getElem?_getD, List.getElem?_eq_getElem hlt]; rfl
    have hx1 := hr xs[i] (List.getElem_mem hlt)
    have hp := L_put hx1.1 hx1.2
    have hz : (S (enc (zig xs[i]))).size ≤ 10 := by rw [← L_len, hp]; exact enc_len10 (zig_lt hx1.1 hx1.2)
    have hw : wrap64 ((i : Int) + 1) = ((i + 1 : Nat) : Int) := by rw [wrap64_id (by omega) (by omega)]; omega
    rw [if_pos (by omega), if_pos (by omega), if_pos (by omega), e, put_ev hx1.1 hx1.2 k (by omega), Option.bind_some, if_pos (by omega), hw,
      ih (i + 1) k _ (by omega) (by omega) (by omega) (by rw [ByteArray.size_append]; omega), L_append, hp, List.drop_eq_getElem_cons hlt, encs, List.append_assoc]
theorem all_ev (xs : List Int) (hr : ∀ x ∈ xs, rng x) (hx : xs.length ≤ 100) (k : Nat) (hk : xs.length + 12 ≤ k) : varint_All.f k xs = some (S (encs xs)) := by
  unfold varint_All.f
  have h := all_l0 xs hr hx xs.length 0 k (⟨#[]⟩ : ByteArray) (by omega) (by omega) hk (by show (0 : Nat) + 10 * xs.length ≤ _; omega)
  rw [show ((0 : Nat) : Int) = 0 from rfl, List.drop_zero, show L (⟨#[]⟩ : ByteArray) = [] by decide +kernel, List.nil_append] at h
  exact h
def oenc (a0 a1 a2 a3 a4 : Int) : List Nat := if a0 = 0 then encs [a0, a1, a2, a3, a4] else if a0 = 1 then encs [a0, a1, a3] else encs [a0]
theorem oMay_rng {a0 a1 a2 a3 a4 : Int} (h : oMay a0 a1 a2 a3 a4 = true) : 0 ≤ a0 ∧ a0 ≤ 2 ∧ 0 ≤ a1 ∧ a1 < 8 ∧ 0 ≤ a2 ∧ a2 ≤ 1048575 ∧ -4398046511104 ≤ a3 ∧ a3 ≤ 4398046511104 ∧ -4398046511104 ≤ a4 ∧ a4 ≤ 4398046511104 := by
  unfold oMay srcMay markMay sampMay at h
  by_cases c : a0 = 0
  · rw [if_pos c] at h; have := of_decide_eq_true h; omega
  · rw [if_neg c] at h
    by_cases c1 : a0 = 1
    · rw [if_pos c1] at h; simp only [Bool.and_eq_true, decide_eq_true_eq, beq_iff_eq] at h; omega
    · rw [if_neg c1] at h; simp only [Bool.and_eq_true, beq_iff_eq] at h; omega
theorem put_no {a0 a1 a2 a3 a4 : Int} (h : oMay a0 a1 a2 a3 a4 = false) (k : Nat) : wire_Put.f k a0 a1 a2 a3 a4 = some ((⟨#[]⟩ : ByteArray), 900) := by
  unfold wire_Put.f wire_May.f
  rw [h]; rfl
theorem put_ok {a0 a1 a2 a3 a4 : Int} (h : oMay a0 a1 a2 a3 a4 = true) (k : Nat) (hk : 20 ≤ k) : wire_Put.f k a0 a1 a2 a3 a4 = some (S (oenc a0 a1 a2 a3 a4), 0) := by
  have hr := oMay_rng h
  unfold wire_Put.f wire_May.f oenc
  rw [h, Option.bind_some, if_pos rfl]
  have r5 : ∀ x ∈ [a0, a1, a2, a3, a4], rng x := by
    intro x hx; simp only [List.mem_cons, List.not_mem_nil, or_false] at hx; unfold rng; omega
  have r3 : ∀ x ∈ [a0, a1, a3], rng x := by
    intro x hx; simp only [List.mem_cons, List.not_mem_nil, or_false] at hx; unfold rng; omega
  have r1 : ∀ x ∈ [a0], rng x := by
    intro x hx; simp only [List.mem_cons, List.not_mem_nil, or_false] at hx; unfold rng; omega
  by_cases c : a0 = 0
  · rw [if_pos c, if_pos c, all_ev _ r5 (by simp) k (by simp; omega)]; rfl
  · rw [if_neg c, if_neg c]
    by_cases c1 : a0 = 1
    · rw [if_pos c1, if_pos c1, all_ev _ r3 (by simp) k (by simp; omega)]; rfl
    · rw [if_neg c1, if_neg c1, all_ev _ r1 (by simp) k (by simp; omega)]; rfl
/-! the reader on lists -/
def numM (l : List Nat) (p : Int) (b : Bool) : Int × Int × Bool := if b = true then (0, p, true) else if (getS (l.drop p.toNat) p).2.2 = 0 then ((getS (l.drop p.toNat) p).1, (getS (l.drop p.toNat) p).2.1, false) else (0, p, true)
theorem num_ev (s : ByteArray) (hs : s.size ≤ 4611686018427387904) (p : Int) (b : Bool) (h0 : 0 ≤ p) (h1 : p ≤ s.size) (k : Nat) (hk : 20 ≤ k) :
    varint_Reader_Num.f k s p b = some ((numM (L s) p b).1, s, (numM (L s) p b).2.1, (numM (L s) p b).2.2) := by
  unfold varint_Reader_Num.f numM
  have h := get_ev s p.toNat (by omega) hs k hk
  rw [Int.toNat_of_nonneg h0] at h
  rw [h, Option.bind_some]
  cases b with
  | true => rfl
  | false =>
    simp only [Bool.false_eq_true, reduceIte]
    by_cases c : (getS ((L s).drop p.toNat) p).2.2 = 0
    · simp only [if_pos c]
    · simp only [if_neg c]
theorem num_rng (l : List Nat) (hb : ∀ y ∈ l, y < 256) (p : Int) (b : Bool) (h0 : 0 ≤ p) (h1 : p ≤ l.length) : 0 ≤ (numM l p b).2.1 ∧ (numM l p b).2.1 ≤ l.length := by
  unfold numM
  cases b with
  | true => exact ⟨h0, h1⟩
  | false =>
    simp only [Bool.false_eq_true, reduceIte]
    by_cases c : (getS (l.drop p.toNat) p).2.2 = 0
    · simp only [if_pos c]
      obtain ⟨u, r, hu, hl, hx, hq⟩ := getS_ok (fun y hy => hb y (List.mem_of_mem_drop hy)) (show getS (l.drop p.toNat) p = ((getS (l.drop p.toNat) p).1, (getS (l.drop p.toNat) p).2.1, 0) by rw [← c])
      have hlen := congrArg List.length hl
      rw [List.length_drop, List.length_append] at hlen
      show 0 ≤ (getS (l.drop p.toNat) p).2.1 ∧ (getS (l.drop p.toNat) p).2.1 ≤ l.length
      rw [hq]; omega
    · simp only [if_neg c]; exact ⟨h0, h1⟩
def rawM (l : List Nat) : Int × Int × Int × Int × Int × Int × Bool :=
  let t0 := numM l 0 false
  if t0.1 = 0 then
    let t1 := numM l t0.2.1 t0.2.2
    let t2 := numM l t1.2.1 t1.2.2
    let t3 := numM l t2.2.1 t2.2.2
    let t4 := numM l t3.2.1 t3.2.2
    (t0.1, t1.1, t2.1, t3.1, t4.1, t4.2)
  else if t0.1 = 1 then
    let t1 := numM l t0.2.1 t0.2.2
    let t2 := numM l t1.2.1 t1.2.2
    (t0.1, t1.1, 0, t2.1, 0, t2.2)
  else (t0.1, 0, 0, 0, 0, t0.2)
def getM (l : List Nat) : Int × Int × Int × Int × Int × Int :=
  let q := rawM l
  if q.2.2.2.2.2.2 = false ∧ q.2.2.2.2.2.1 = l.length ∧ oMay q.1 q.2.1 q.2.2.1 q.2.2.2.1 q.2.2.2.2.1 = true then (q.1, q.2.1, q.2.2.1, q.2.2.2.1, q.2.2.2.2.1, 0) else (0, 0, 0, 0, 0, 900)
theorem raw_ev (s : ByteArray) (hs : s.size ≤ 4611686018427387904) (k : Nat) (hk : 20 ≤ k) : wire_Get.raw k s = some ((rawM (L s)).1, (rawM (L s)).2.1, (rawM (L s)).2.2.1, (rawM (L s)).2.2.2.1, (rawM (L s)).2.2.2.2.1, s, (rawM (L s)).2.2.2.2.2.1, (rawM (L s)).2.2.2.2.2.2) := by
  have hb := L_lt s
  have hlen := L_len s
  have N : ∀ (p : Int) (b : Bool), 0 ≤ p → p ≤ s.size → varint_Reader_Num.f k s p b = some ((numM (L s) p b).1, s, (numM (L s) p b).2.1, (numM (L s) p b).2.2) := fun p b a1 a2 => num_ev s hs p b a1 a2 k hk
  have R : ∀ (p : Int) (b : Bool), 0 ≤ p → p ≤ s.size → 0 ≤ (numM (L s) p b).2.1 ∧ (numM (L s) p b).2.1 ≤ s.size := fun p b a1 a2 => by
    have := num_rng (L s) hb p b a1 (by omega); omega
  unfold wire_Get.raw rawM
  have r0 := R 0 false (by omega) (by omega)
  rw [N 0 false (by omega) (by omega), Option.bind_some]
  dsimp only
  generalize numM (L s) 0 false = t0 at *
  by_cases c : t0.1 = 0
  · have r1 := R t0.2.1 t0.2.2 r0.1 r0.2
    have r2 := R _ (numM (L s) t0.2.1 t0.2.2).2.2 r1.1 r1.2
    have r3 := R _ (numM (L s) (numM (L s) t0.2.1 t0.2.2).2.1 (numM (L s) t0.2.1 t0.2.2).2.2).2.2 r2.1 r2.2
    rw [if_pos c, if_pos c, N _ _ r0.1 r0.2, Option.bind_some]
    dsimp only
    rw [N _ _ r1.1 r1.2, Option.bind_some]
    dsimp only
    rw [N _ _ r2.1 r2.2, Option.bind_some]
    dsimp only
    rw [N _ _ r3.1 r3.2, Option.bind_some]
  · rw [if_neg c, if_neg c]
    by_cases c1 : t0.1 = 1
    · have r1 := R t0.2.1 t0.2.2 r0.1 r0.2
      rw [if_pos c1, if_pos c1, N _ _ r0.1 r0.2, Option.bind_some]
      dsimp only
      rw [N _ _ r1.1 r1.2, Option.bind_some]
    · rw [if_neg c1, if_neg c1]
theorem get_all (s : ByteArray) (hs : s.size ≤ 4611686018427387904) (k : Nat) (hk : 20 ≤ k) : wire_Get.f k s = some (getM (L s)) := by
  have hlen := L_len s
  unfold wire_Get.f getM
  rw [raw_ev s hs k hk, Option.bind_some]
  dsimp only
  generalize rawM (L s) = q
  obtain ⟨n0, n1, n2, n3, n4, p, b⟩ := q
  dsimp only
  cases b with
  | true => simp only [reduceIte, Bool.false_eq_true, Bool.true_eq_false, false_and]
  | false =>
    by_cases c : p = (s.size : Int)
    · rw [if_pos (by simp [c])]
      by_cases m : oMay n0 n1 n2 n3 n4 = true
      · rw [if_pos m, if_pos ⟨rfl, by omega, m⟩]
      · rw [if_neg m, if_neg (fun h => m h.2.2)]
    · rw [if_neg (by simp [c]), if_neg (fun h => c (by omega))]
theorem oMay_iff {a0 a1 a2 a3 a4 : Int} : oMay a0 a1 a2 a3 a4 = true ↔ (a0 = 0 ∧ 0 ≤ a1 ∧ a1 < 8 ∧ 0 ≤ a2 ∧ a2 ≤ 1048575 ∧ -1099511627776 ≤ a3 ∧ a3 ≤ 1099511627776 ∧ -1099511627776 ≤ a4 ∧ a4 ≤ 1099511627776) ∨ (a0 = 1 ∧ 0 ≤ a1 ∧ a1 < 8 ∧ -4398046511104 < a3 ∧ a3 ≤ 4398046511104 ∧ a2 = 0 ∧ a4 = 0) ∨ (a0 = 2 ∧ a1 = 0 ∧ a2 = 0 ∧ a3 = 0 ∧ a4 = 0) := by
  unfold oMay srcMay markMay sampMay
  by_cases c : a0 = 0
  · rw [if_pos c, decide_eq_true_eq]; omega
  · rw [if_neg c]
    by_cases c1 : a0 = 1
    · rw [if_pos c1]; simp only [Bool.and_eq_true, decide_eq_true_eq, beq_iff_eq]; omega
    · rw [if_neg c1]; simp only [Bool.and_eq_true, beq_iff_eq]; omega
theorem o_no {a0 a1 a2 a3 a4 : Int} (h : ¬ ((a0 = 0 ∧ 0 ≤ a1 ∧ a1 < 8 ∧ 0 ≤ a2 ∧ a2 ≤ 1048575 ∧ -1099511627776 ≤ a3 ∧ a3 ≤ 1099511627776 ∧ -1099511627776 ≤ a4 ∧ a4 ≤ 1099511627776) ∨ (a0 = 1 ∧ 0 ≤ a1 ∧ a1 < 8 ∧ -4398046511104 < a3 ∧ a3 ≤ 4398046511104 ∧ a2 = 0 ∧ a4 = 0) ∨ (a0 = 2 ∧ a1 = 0 ∧ a2 = 0 ∧ a3 = 0 ∧ a4 = 0))) : oMay a0 a1 a2 a3 a4 = false :=
  Bool.eq_false_iff.2 (fun e => h (oMay_iff.1 e))

/-! ### awake9 -/
theorem num9 (a : Int) : bournelaw0_Num.f a = some a := rfl
theorem o9 : oMay 0 1 3 (-5) 70 = true := by unfold oMay sampMay; decide
theorem o9a : oMay 3 0 0 0 1 = false := by unfold oMay; decide
theorem o9b : oMay 2 0 0 1 0 = false := by unfold oMay; decide
theorem oe9 : oenc 0 1 3 (-5) 70 = [0, 2, 6, 9, 140, 1] := by
  unfold oenc
  rw [if_pos rfl]
  simp only [encs]
  rw [show zig 0 = 0 by decide, show zig 1 = 2 by decide, show zig 3 = 6 by decide, show zig (-5) = 9 by decide, show zig 70 = 140 by decide,
    enc_small (u := 0) (by decide), enc_small (u := 2) (by decide), enc_small (u := 6) (by decide), enc_small (u := 9) (by decide), enc_big (u := 140) (by decide), enc_small (u := 140 / 128) (by decide)]
  rfl
theorem Lo9 : L (S [0, 2, 6, 9, 140, 1]) = [0, 2, 6, 9, 140, 1] := L_S (by decide)
theorem g9 : getM [0, 2, 6, 9, 140, 1] = (0, 1, 3, -5, 70, 0) := by
  have : rawM [0, 2, 6, 9, 140, 1] = (0, 1, 3, -5, 70, 6, false) := by decide +kernel
  unfold getM
  rw [this]
  dsimp only
  rw [o9]; rfl
theorem g9a : getM ([0, 2, 6, 9, 140, 1] ++ [0]) = (0, 0, 0, 0, 0, 900) := by
  have : rawM ([0, 2, 6, 9, 140, 1] ++ [0]) = (0, 1, 3, -5, 70, 6, false) := by decide +kernel
  unfold getM
  rw [this]
  dsimp only
  rw [if_neg (by decide)]
theorem L0_9 : L (⟨#[0]⟩ : ByteArray) = [0] := by decide +kernel
theorem z9 : (S [0, 2, 6, 9, 140, 1]).size = 6 := by rw [← L_len, Lo9]; rfl
theorem z9a : (S [0, 2, 6, 9, 140, 1] ++ (⟨#[0]⟩ : ByteArray)).size = 7 := by rw [← L_len, L_append, Lo9, L0_9]; rfl
theorem awake_ev (k : Nat) (hk : 20 ≤ k) : bournelaw9_awake.f k = some true := by
  unfold bournelaw9_awake.f
  have p1 := put_ok o9 k hk
  rw [oe9] at p1
  have h1 := get_all (S [0, 2, 6, 9, 140, 1]) (by rw [z9]; decide) k hk
  rw [Lo9, g9] at h1
  have h2 := get_all (S [0, 2, 6, 9, 140, 1] ++ (⟨#[0]⟩ : ByteArray)) (by rw [z9a]; decide) k hk
  rw [L_append, Lo9, L0_9, g9a] at h2
  rw [p1, Option.bind_some]
  dsimp only
  rw [h1, Option.bind_some, if_pos (by rw [z9]; decide), h2, Option.bind_some, put_no o9a, Option.bind_some, if_pos ((toList_lit _ _).2 Lo9)]
  simp only [num9, Option.bind_some, wire_May.f, o9, o9b]
  rfl

theorem forms_walk (a0 a1 : Int) (w : World) (h0 : (Lit.int .i64 a0).wf = true) (h1 : (Lit.int .i64 a1).wf = true) :
    Calls Try.prog 5 #[.int .i64 a0, .int .i64 a1] w fun e w' => e = .returned (.bool true) ∧ Below w.heap.size w w' := by
  have e1 := and_m a1 10 1023 1024 (by omega) rfl rfl
  have b1 : 0 ≤ a1 % 1024 := Int.emod_nonneg _ (by omega)
  have b2 : a1 % 1024 < 1024 := Int.emod_lt_of_pos _ (by omega)
  have hd : wrap64 (1 + (Go.bits .and .i64 a1 1023)) = 1 + a1 % 1024 := by rw [e1, wrap64_id (by omega) (by omega)]
  generalize a1 % 1024 = x at *
  obtain ⟨d, hd1⟩ : ∃ d, 1 + x = d := ⟨_, rfl⟩
  rw [hd1] at hd
  have d1 : 1 ≤ d := by omega
  have d2 : d ≤ 1024 := by omega
  clear e1 b1 b2 hd1
  have A := Aside0.mk (awake_ev 30 (by omega))
  have m0 : Aside0 (wire_May.f 0 7 1048575 1099511627776 (-1099511627776) = some true) := ⟨congrArg some (oMay_iff.2 (by omega))⟩
  have m1 : Aside0 (wire_May.f 1 0 0 4398046511104 0 = some true) := ⟨congrArg some (oMay_iff.2 (by omega))⟩
  have m2 : Aside0 (wire_May.f 2 0 0 0 0 = some true) := ⟨congrArg some (oMay_iff.2 (by omega))⟩
  have hu : Int.tmod (IntKind.u64.wrap a0) 16 = a0 % 18446744073709551616 % 16 := by rw [wrap_u64, Int.tmod_eq_emod_of_nonneg (by omega)]
  have hc0 : 0 ≤ Int.tmod (IntKind.u64.wrap a0) 16 := by rw [hu]; omega
  have hc1 : Int.tmod (IntKind.u64.wrap a0) 16 < 16 := by rw [hu]; omega
  clear hu
  have hcs : ∀ c : Int, 0 ≤ c → c < 16 → c = 0 ∨ c = 1 ∨ c = 2 ∨ c = 3 ∨ c = 4 ∨ c = 5 ∨ c = 6 ∨ c = 7 ∨ c = 8 ∨ c = 9 ∨ c = 10 ∨ c = 11 ∨ c = 12 ∨ c = 13 ∨ c = 14 ∨ c = 15 := fun c _ _ => by omega
  rcases hcs _ hc0 hc1 with hc | hc | hc | hc | hc | hc | hc | hc | hc | hc | hc | hc | hc | hc | hc | hc
  · have q : oMay 3 7 1048575 1099511627776 (-1099511627776) = false := o_no (by omega)
    exact way0 30 a0 a1 d w hc ⟨hd⟩ d1 d2 A m0 m1 m2 ⟨put_no q 30⟩ ⟨congrArg some q⟩
  · have q : oMay (3 + d) 7 1048575 1099511627776 (-1099511627776) = false := o_no (by omega)
    exact way1 30 a0 a1 d w hc ⟨hd⟩ d1 d2 A m0 m1 m2 ⟨put_no q 30⟩ ⟨congrArg some q⟩
  · have q : oMay (-d) 7 1048575 1099511627776 (-1099511627776) = false := o_no (by omega)
    exact way2 30 a0 a1 d w hc ⟨hd⟩ d1 d2 A m0 m1 m2 ⟨put_no q 30⟩ ⟨congrArg some q⟩
  · have q : oMay 0 (7 + d) 1048575 1099511627776 (-1099511627776) = false := o_no (by omega)
    exact way3 30 a0 a1 d w hc ⟨hd⟩ d1 d2 A m0 m1 m2 ⟨put_no q 30⟩ ⟨congrArg some q⟩
  · have q : oMay 0 (-d) 1048575 1099511627776 (-1099511627776) = false := o_no (by omega)
    exact way4 30 a0 a1 d w hc ⟨hd⟩ d1 d2 A m0 m1 m2 ⟨put_no q 30⟩ ⟨congrArg some q⟩
  · have q : oMay 0 7 (1048575 + d) 1099511627776 (-1099511627776) = false := o_no (by omega)
    exact way5 30 a0 a1 d w hc ⟨hd⟩ d1 d2 A m0 m1 m2 ⟨put_no q 30⟩ ⟨congrArg some q⟩
  · have q : oMay 0 7 (-d) 1099511627776 (-1099511627776) = false := o_no (by omega)
    exact way6 30 a0 a1 d w hc ⟨hd⟩ d1 d2 A m0 m1 m2 ⟨put_no q 30⟩ ⟨congrArg some q⟩
  · have q : oMay 0 7 1048575 (1099511627776 + d) (-1099511627776) = false := o_no (by omega)
    exact way7 30 a0 a1 d w hc ⟨hd⟩ d1 d2 A m0 m1 m2 ⟨put_no q 30⟩ ⟨congrArg some q⟩
  · have q : oMay 0 7 1048575 (-1099511627776 - d) (-1099511627776) = false := o_no (by omega)
    exact way8 30 a0 a1 d w hc ⟨hd⟩ d1 d2 A m0 m1 m2 ⟨put_no q 30⟩ ⟨congrArg some q⟩
  · have q : oMay 0 7 1048575 1099511627776 (1099511627776 + d) = false := o_no (by omega)
    exact way9 30 a0 a1 d w hc ⟨hd⟩ d1 d2 A m0 m1 m2 ⟨put_no q 30⟩ ⟨congrArg some q⟩
  · have q : oMay 1 0 0 (4398046511104 + d) 0 = false := o_no (by omega)
    exact way10 30 a0 a1 d w hc ⟨hd⟩ d1 d2 A m0 m1 m2 ⟨put_no q 30⟩ ⟨congrArg some q⟩
  · have q : oMay 1 0 0 (-4398046511104) 0 = false := o_no (by omega)
    exact way11 30 a0 a1 d w hc ⟨hd⟩ d1 d2 A m0 m1 m2 ⟨put_no q 30⟩ ⟨congrArg some q⟩
  · have q : oMay 1 0 d 4398046511104 0 = false := o_no (by omega)
    exact way12 30 a0 a1 d w hc ⟨hd⟩ d1 d2 A m0 m1 m2 ⟨put_no q 30⟩ ⟨congrArg some q⟩
  · have q : oMay 1 0 0 4398046511104 d = false := o_no (by omega)
    exact way13 30 a0 a1 d w hc ⟨hd⟩ d1 d2 A m0 m1 m2 ⟨put_no q 30⟩ ⟨congrArg some q⟩
  · have q : oMay 2 d 0 0 0 = false := o_no (by omega)
    exact way14 30 a0 a1 d w hc ⟨hd⟩ d1 d2 A m0 m1 m2 ⟨put_no q 30⟩ ⟨congrArg some q⟩
  · have q : oMay 2 0 0 0 d = false := o_no (by omega)
    exact way15 30 a0 a1 d w hc ⟨hd⟩ d1 d2 A m0 m1 m2 ⟨put_no q 30⟩ ⟨congrArg some q⟩

end Go.Proofs.Ytmefhlaeeaockaa.FormsMath
