/- The law Wires answers true at any operation and any bytes: what is written and read is the document's. No condition. -/
import Derived.Test.YtmefhlaeeaockaaQWiresx8
namespace Go.Proofs.Ytmefhlaeeaockaa.Pure
open Go.RowKit Go.Proofs.Ytmefhlaeeaockaa.QWires Go.Proofs.YtmefhlaeeaockaaW.PrintWords Go.Proofs.YtmefhlaeeaockaaW.PrintLast Go.Proofs.YtmefhlaeeaockaaW.PrintMore
set_option linter.unusedVariables false
set_option linter.unusedSimpArgs false

/-! ### base -/
theorem wf_i64 {a : Int} (h : (Lit.int .i64 a).wf = true) : -9223372036854775808 ≤ a ∧ a ≤ 9223372036854775807 := by
  simpa [Lit.wf, IntKind.min, IntKind.max, IntKind.signed, IntKind.bits] using h
theorem wrap64_id {n : Int} (h1 : -9223372036854775808 ≤ n) (h2 : n ≤ 9223372036854775807) : wrap64 n = n := by
  unfold wrap64; omega
theorem toNat_ofInt64 (a : Int) : ((BitVec.ofInt 64 a).toNat : Int) = a % 18446744073709551616 := by
  rw [BitVec.toNat_ofInt]
  have h : (0 : Int) ≤ a % ((2 ^ 64 : Nat) : Int) := Int.emod_nonneg _ (by decide)
  rw [Int.toNat_of_nonneg h]; rfl
theorem wrap_i64_nat (n : Nat) (h : n < 9223372036854775808) : IntKind.i64.wrap (n : Int) = (n : Int) := by
  rw [IntKind.wrap_i64]; omega
theorem and_mask (a : Int) (j : Nat) (hj : j ≤ 63) : Go.bits .and .i64 a (2 ^ j - 1) = a % 2 ^ j := by
  have hp : 2 ^ j ≤ 2 ^ 63 := Nat.pow_le_pow_right (by decide) hj
  have hpos : 0 < 2 ^ j := Nat.two_pow_pos j
  have hc : ((2 : Int) ^ j - 1) = ((2 ^ j - 1 : Nat) : Int) := by
    rw [Int.natCast_sub hpos]; simp
  have hd : (2 : Int) ^ j ∣ 18446744073709551616 := ⟨2 ^ (64 - j), by rw [← Int.pow_add]; rw [show j + (64 - j) = 64 by omega]; rfl⟩
  show IntKind.i64.wrap (((BitVec.ofInt 64 a &&& BitVec.ofInt 64 (2 ^ j - 1)).toNat : Nat) : Int) = _
  rw [BitVec.toNat_and, hc, BitVec.ofInt_natCast, BitVec.toNat_ofNat, Nat.mod_eq_of_lt (Nat.lt_of_lt_of_le (Nat.sub_lt hpos (by decide)) (Nat.le_trans hp (by decide))), Nat.and_two_pow_sub_one_eq_mod]
  rw [wrap_i64_nat _ (Nat.lt_of_lt_of_le (Nat.mod_lt _ hpos) hp), Int.natCast_emod, toNat_ofInt64, Int.natCast_pow]
  exact Int.emod_emod_of_dvd a hd
theorem and_m (a : Int) (j : Nat) (m p : Int) (hj : j ≤ 63) (hp : (2 : Int) ^ j = p) (hm : m = p - 1) : Go.bits .and .i64 a m = a % p := by
  subst hm; rw [← hp]; exact and_mask a j hj

/-! ### bytes -/
def L (s : ByteArray) : List Nat := s.data.toList.map UInt8.toNat
theorem L_len (s : ByteArray) : (L s).length = s.size := by unfold L; simp
theorem L_append (a b : ByteArray) : L (a ++ b) = L a ++ L b := by unfold L; simp [ByteArray.data_append]
theorem L_extract (s : ByteArray) (i j : Nat) : L (s.extract i j) = ((L s).take j).drop i := by
  unfold L; rw [ByteArray.data_extract, Array.toList_extract, List.extract_eq_take_drop]
  rw [List.map_take, List.map_drop, List.drop_take]
theorem L_lt (s : ByteArray) : ∀ x ∈ L s, x < 256 := by
  intro x hx
  unfold L at hx
  obtain ⟨b, _, rfl⟩ := List.mem_map.1 hx
  exact b.toNat_lt
theorem L_inj {s t : ByteArray} (h : L s = L t) : s = t := by
  unfold L at h
  have hi : Function.Injective UInt8.toNat := fun a b h => UInt8.toNat_inj.1 h
  have := (List.map_inj_right (fun a b h => hi h)).1 h
  cases s; cases t
  congr 1
  exact Array.toList_inj.1 this
theorem bt_L (s : ByteArray) (i : Int) : bt s i = (((L s).getD i.toNat 0 : Nat) : Int) := by
  unfold bt L
  by_cases h : i.toNat < s.size
  · rw [dif_pos h, List.getD_eq_getElem?_getD, List.getElem?_map, List.getElem?_eq_getElem (by simpa using h)]
    simp; rfl
  · rw [dif_neg h, List.getD_eq_getElem?_getD, List.getElem?_eq_none (by simpa using h)]
    simp
theorem L_mk (l : List UInt8) : L ⟨l.toArray⟩ = l.map UInt8.toNat := by unfold L; simp
theorem L_str (xs : List Nat) (h : ∀ x ∈ xs, x < 256) : L (strOfNums (xs.map fun n : Nat => (n : Int))) = xs := by
  unfold strOfNums L
  simp only [List.map_map]
  conv => rhs; rw [← List.map_id xs]
  apply List.map_congr_left
  intro x hx
  have := h x hx
  simp [Function.comp]
  omega
theorem eq_of_toList {s t : ByteArray} (h : s.toList = t.toList) : s = t := by
  rw [ByteArray.toList_eq, ByteArray.toList_eq] at h
  cases s; cases t
  congr 1
  exact Array.toList_inj.1 h
theorem toList_beq (s t : ByteArray) : (s.toList == t.toList) = decide (L s = L t) := by
  by_cases h : s = t
  · subst h; simp
  · have h1 : ¬ s.toList = t.toList := fun e => h (eq_of_toList e)
    have h2 : ¬ L s = L t := fun e => h (L_inj e)
    simp [h1, h2]
theorem L_toList (s : ByteArray) : s.toList.map UInt8.toNat = L s := by rw [ByteArray.toList_eq]; rfl
theorem toList_lit (s : ByteArray) (l : List UInt8) : (s.toList = l) ↔ L s = l.map UInt8.toNat := by
  constructor
  · rintro rfl; rw [L_toList]
  · intro h
    rw [← L_toList] at h
    exact (List.map_inj_right (fun a b h => UInt8.toNat_inj.1 h)).1 h
attribute [local irreducible] L bt

/-! ### vmath -/
def enc (u : Nat) : List Nat := if h : u < 128 then [u] else (u % 128 + 128) :: enc (u / 128)
termination_by u
def zig (x : Int) : Nat := if 0 ≤ x then (2 * x).toNat else (-2 * x - 1).toNat
def unzig (u : Nat) : Int := if u % 2 = 0 then ((u / 2 : Nat) : Int) else -((u / 2 : Nat) : Int) - 1
def fin : List Nat → Nat
  | [] => 0
  | b :: r => if b < 128 then 1 else if fin r = 0 then 0 else fin r + 1
def val : List Nat → Nat
  | [] => 0
  | b :: r => b % 128 + 128 * val r
def getS (l : List Nat) (p : Int) : Int × Int × Int :=
  if fin (l.take 10) = 0 then (if l.length < 10 then (0, 0, 701) else (0, 0, 700))
  else if (fin (l.take 10) = 10 ∧ 1 < l.getD 9 0) ∨ (1 < fin (l.take 10) ∧ l.getD (fin (l.take 10) - 1) 0 = 0) then (0, 0, 700)
  else (unzig (val (l.take (fin (l.take 10)))), p + fin (l.take 10), 0)
theorem enc_small {u : Nat} (h : u < 128) : enc u = [u] := by rw [enc]; rw [dif_pos h]
theorem enc_big {u : Nat} (h : ¬ u < 128) : enc u = (u % 128 + 128) :: enc (u / 128) := by rw [enc]; rw [dif_neg h]
theorem enc_pos (u : Nat) : 1 ≤ (enc u).length := by
  by_cases h : u < 128
  · rw [enc_small h]; simp
  · rw [enc_big h]; simp
theorem enc_ne (u : Nat) : enc u ≠ [] := by
  have := enc_pos u
  intro h; rw [h] at this; simp at this
theorem enc_lt (n : Nat) : ∀ u, u < 128 ^ n → ∀ x ∈ enc u, x < 256 := by
  induction n with
  | zero => intro u hu x hx; rw [enc_small (by omega)] at hx; simp at hx; omega
  | succ n ih =>
    intro u hu x hx
    by_cases h : u < 128
    · rw [enc_small h] at hx; simp at hx; omega
    · rw [enc_big h] at hx
      rcases List.mem_cons.1 hx with rfl | hx
      · omega
      · exact ih (u / 128) (by rw [Nat.pow_succ] at hu; omega) x hx
theorem enc_len (n : Nat) : ∀ u, u < 128 ^ (n + 1) → (n = 0 ∨ 128 ^ n ≤ u) → (enc u).length = n + 1 := by
  induction n with
  | zero => intro u hu _; rw [enc_small (by simpa using hu)]; rfl
  | succ n ih =>
    intro u hu hl
    have hl : 128 ^ (n + 1) ≤ u := by omega
    have h1 : 1 ≤ 128 ^ n := Nat.pow_pos (by decide)
    rw [Nat.pow_succ] at hl hu
    rw [enc_big (by omega)]
    simp only [List.length_cons]
    rw [ih (u / 128) (by omega) (by omega)]
theorem enc_le (n : Nat) : ∀ u, u < 128 ^ (n + 1) → (enc u).length ≤ n + 1 := by
  induction n with
  | zero => intro u hu; rw [enc_small (by simpa using hu)]; simp
  | succ n ih =>
    intro u hu
    by_cases h : u < 128
    · rw [enc_small h]; simp
    · rw [enc_big h]
      rw [Nat.pow_succ] at hu
      have := ih (u / 128) (by omega)
      simp only [List.length_cons]; omega
theorem enc_len10 {u : Nat} (h : u < 18446744073709551616) : (enc u).length ≤ 10 := enc_le 9 u (Nat.lt_of_lt_of_le h (by decide))
theorem fin_enc (r : List Nat) (n : Nat) : ∀ u, u < 128 ^ n → fin (enc u ++ r) = (enc u).length := by
  induction n with
  | zero => intro u hu; rw [enc_small (by omega)]; simp [fin]; omega
  | succ n ih =>
    intro u hu
    by_cases h : u < 128
    · rw [enc_small h]; simp [fin]; omega
    · rw [enc_big h]
      rw [Nat.pow_succ] at hu
      have e := ih (u / 128) (by omega)
      have hp := enc_pos (u / 128)
      simp only [List.cons_append, fin, e, List.length_cons]
      rw [if_neg (by omega), if_neg (by omega)]
theorem fin_cut (n : Nat) : ∀ u, u < 128 ^ n → ∀ m, m < (enc u).length → fin ((enc u).take m) = 0 := by
  induction n with
  | zero => intro u hu m hm; rw [enc_small (by omega)] at *; simp at hm; subst hm; rfl
  | succ n ih =>
    intro u hu m hm
    by_cases h : u < 128
    · rw [enc_small h] at *; simp at hm; subst hm; rfl
    · rw [enc_big h] at *
      rw [Nat.pow_succ] at hu
      cases m with
      | zero => rfl
      | succ m =>
        simp only [List.length_cons] at hm
        have e := ih (u / 128) (by omega) m (by omega)
        simp only [List.take_succ_cons, fin, e]
        rw [if_neg (by omega)]; rfl
theorem val_enc (n : Nat) : ∀ u, u < 128 ^ n → val (enc u) = u := by
  induction n with
  | zero => intro u hu; rw [enc_small (by omega)]; simp [val]; omega
  | succ n ih =>
    intro u hu
    by_cases h : u < 128
    · rw [enc_small h]; simp [val]; omega
    · rw [enc_big h]
      rw [Nat.pow_succ] at hu
      simp only [val, ih (u / 128) (by omega)]; omega
theorem val_lt (l : List Nat) : val l < 128 ^ l.length := by
  induction l with
  | nil => simp [val]
  | cons b r ih => simp only [val, List.length_cons, Nat.pow_succ]; omega
theorem val_app (a b : List Nat) : val (a ++ b) = val a + 128 ^ a.length * val b := by
  induction a with
  | nil => simp [val]
  | cons x r ih =>
    simp only [List.cons_append, val, ih, List.length_cons, Nat.pow_succ]
    rw [Nat.mul_add, ← Nat.mul_assoc, Nat.mul_comm 128 (128 ^ r.length)]; omega
theorem fin_le (l : List Nat) : fin l ≤ l.length := by
  induction l with
  | nil => simp [fin]
  | cons b r ih => simp only [fin, List.length_cons]; split <;> (try split) <;> omega
theorem val_bound (l : List Nat) (h0 : fin (l.take 10) ≠ 0) (hc : ¬ ((fin (l.take 10) = 10 ∧ 1 < l.getD 9 0) ∨ (1 < fin (l.take 10) ∧ l.getD (fin (l.take 10) - 1) 0 = 0))) :
    val (l.take (fin (l.take 10))) < 18446744073709551616 := by
  have hf := fin_le (l.take 10)
  rw [List.length_take] at hf
  generalize fin (l.take 10) = n at *
  have e9 : (128 : Nat) ^ 9 = 9223372036854775808 := by decide
  by_cases c : n = 10
  · subst c
    have h9 : ¬ 1 < l.getD 9 0 := fun z => hc (Or.inl ⟨rfl, z⟩)
    have hl : 9 < l.length := by omega
    rw [List.take_succ_eq_append_getElem hl, val_app]
    have hv := val_lt (l.take 9)
    rw [List.length_take, Nat.min_eq_left (by omega), e9] at hv
    rw [List.getD_eq_getElem?_getD, List.getElem?_eq_getElem hl] at h9
    simp only [Option.getD_some] at h9
    rw [List.length_take, Nat.min_eq_left (by omega), e9]
    simp only [val]
    omega
  · have hv := val_lt (l.take n)
    have : 128 ^ (l.take n).length ≤ 128 ^ 9 := Nat.pow_le_pow_right (by decide) (by rw [List.length_take]; omega)
    omega
/-- The last byte of a number's bytes. -/
theorem enc_last (n : Nat) : ∀ u, u < 128 ^ n → ∀ r, (enc u ++ r).getD ((enc u).length - 1) 0 = u / 128 ^ ((enc u).length - 1) ∧ (1 < (enc u).length → 1 ≤ u / 128 ^ ((enc u).length - 1)) := by
  induction n with
  | zero => intro u hu r; rw [enc_small (by omega)]; simp
  | succ n ih =>
    intro u hu r
    by_cases h : u < 128
    · rw [enc_small h]; simp
    · have hp := enc_pos (u / 128)
      rw [Nat.pow_succ] at hu
      obtain ⟨e1, e2⟩ := ih (u / 128) (by omega) r
      rw [enc_big h]
      simp only [List.length_cons, Nat.add_sub_cancel, List.cons_append]
      have hk : (enc (u / 128)).length = ((enc (u / 128)).length - 1) + 1 := by omega
      have hq : u / 128 ^ (enc (u / 128)).length = u / 128 / 128 ^ ((enc (u / 128)).length - 1) := by
        conv => lhs; rw [hk]
        rw [Nat.pow_succ, Nat.mul_comm, Nat.div_div_eq_div_mul]
      constructor
      · rw [hq, ← e1]
        conv => lhs; rw [hk]
        rw [List.getD_cons_succ]
      · intro _
        rw [hq]
        by_cases c : 1 < (enc (u / 128)).length
        · exact e2 c
        · have : (enc (u / 128)).length - 1 = 0 := by omega
          rw [this]; simp; omega
theorem getS_enc {u : Nat} (hu : u < 18446744073709551616) (r : List Nat) (p : Int) : getS (enc u ++ r) p = (unzig u, p + (enc u).length, 0) := by
  have hu' : u < 128 ^ 10 := Nat.lt_of_lt_of_le hu (by decide)
  have h10 := enc_len10 hu
  have hp := enc_pos u
  have hf : fin ((enc u ++ r).take 10) = (enc u).length := by
    rw [List.take_append, List.take_of_length_le h10]
    exact fin_enc _ 10 u hu'
  obtain ⟨l1, l2⟩ := enc_last 10 u hu' r
  unfold getS
  rw [hf, if_neg (by omega), if_neg]
  · rw [List.take_left, val_enc 10 u hu']
  · rintro (⟨h1, h2⟩ | ⟨h1, h2⟩)
    · rw [h1] at l1
      have : u / 128 ^ (10 - 1) ≤ 1 := by
        have : u / 128 ^ (10 - 1) < 2 := Nat.div_lt_of_lt_mul (by simpa using hu)
        omega
      have : (enc u ++ r).getD 9 0 = u / 128 ^ (10 - 1) := l1
      omega
    · rw [l1] at h2
      have := l2 h1
      omega
theorem enc_of (l : List Nat) : (∀ x ∈ l, x < 256) → fin l = l.length → 1 ≤ l.length → (l.length = 1 ∨ l.getD (l.length - 1) 0 ≠ 0) → enc (val l) = l := by
  induction l with
  | nil => intro _ _ h; simp at h
  | cons b r ih =>
    intro hb hf h1 hl
    have hb0 := hb b (List.mem_cons_self ..)
    cases r with
    | nil =>
      have : b < 128 := by
        by_cases c : b < 128
        · exact c
        · simp [fin, c] at hf
      simp only [val]
      rw [enc_small (by omega)]; congr 1; omega
    | cons c r =>
      have hbig : ¬ b < 128 := by
        intro c'; simp [fin, c'] at hf
      have hf' : fin (c :: r) = (c :: r).length := by
        rw [fin, if_neg hbig] at hf
        by_cases z : fin (c :: r) = 0
        · rw [if_pos z] at hf; simp at hf
        · rw [if_neg z] at hf; simpa using hf
      have hl' : (c :: r).length = 1 ∨ (c :: r).getD ((c :: r).length - 1) 0 ≠ 0 := by
        rcases hl with hl | hl
        · simp at hl
        · refine Or.inr ?_
          simpa using hl
      have e := ih (fun x hx => hb x (List.mem_cons_of_mem _ hx)) hf' (by simp) hl'
      have hv : val (c :: r) ≠ 0 := by
        intro z
        rw [z, enc_small (by decide)] at e
        have : c = 0 ∧ r = [] := by simpa using e.symm
        obtain ⟨rfl, rfl⟩ := this
        rcases hl with hl | hl
        · simp at hl
        · simp at hl
      have ev : val (b :: c :: r) = b % 128 + 128 * val (c :: r) := rfl
      rw [ev, enc_big (by omega)]
      rw [show (b % 128 + 128 * val (c :: r)) / 128 = val (c :: r) by omega, e]
      congr 1; omega
theorem fin_take (l : List Nat) : fin l ≠ 0 → fin (l.take (fin l)) = fin l := by
  induction l with
  | nil => intro h; simp [fin] at h
  | cons b r ih =>
    intro h
    by_cases c : b < 128
    · have : fin (b :: r) = 1 := by simp [fin, c]
      rw [this]; simp [fin, c]
    · by_cases z : fin r = 0
      · exfalso; apply h; simp [fin, c, z]
      · have e : fin (b :: r) = fin r + 1 := by simp [fin, c, z]
        rw [e, List.take_succ_cons]
        simp [fin, c, ih z, z]
theorem getS_ok {l : List Nat} {p x q : Int} (hb : ∀ y ∈ l, y < 256) (h : getS l p = (x, q, 0)) :
    ∃ u r, u < 18446744073709551616 ∧ l = enc u ++ r ∧ x = unzig u ∧ q = p + (enc u).length := by
  unfold getS at h
  by_cases h0 : fin (l.take 10) = 0
  · rw [if_pos h0] at h
    split at h <;> simp at h
  · rw [if_neg h0] at h
    by_cases hc : (fin (l.take 10) = 10 ∧ 1 < l.getD 9 0) ∨ (1 < fin (l.take 10) ∧ l.getD (fin (l.take 10) - 1) 0 = 0)
    · rw [if_pos hc] at h; simp at h
    · rw [if_neg hc] at h
      simp only [Prod.mk.injEq] at h
      obtain ⟨h1, h2, _⟩ := h
      have hvb := val_bound l h0 hc
      generalize hn : fin (l.take 10) = n at *
      have hle : n ≤ 10 := by
        have := fin_le (l.take 10)
        rw [List.length_take] at this; omega
      have hll : n ≤ l.length := by
        have := fin_le (l.take 10)
        rw [List.length_take] at this; omega
      have ht : (l.take n).length = n := by rw [List.length_take]; omega
      have hfn : fin (l.take n) = n := by
        have := fin_take (l.take 10) (by omega)
        rw [hn, List.take_take, Nat.min_eq_left hle] at this
        exact this
      have hlast : (l.take n).getD (n - 1) 0 = l.getD (n - 1) 0 := by
        rw [List.getD_eq_getElem?_getD, List.getD_eq_getElem?_getD, List.getElem?_take_of_lt (by omega)]
      have he : enc (val (l.take n)) = l.take n := by
        refine enc_of _ (fun y hy => hb y (List.mem_of_mem_take hy)) (by rw [hfn, ht]) (by omega) ?_
        rw [ht, hlast]
        by_cases c : n = 1
        · exact Or.inl c
        · exact Or.inr (fun z => hc (Or.inr ⟨by omega, z⟩))
      refine ⟨val (l.take n), l.drop n, ?_, ?_, h1.symm, ?_⟩
      · exact hvb
      · rw [he, List.take_append_drop]
      · rw [he, ht]; exact h2.symm
theorem getS_code (l : List Nat) (p : Int) : (getS l p).2.2 = 0 ∨ getS l p = (0, 0, 700) ∨ getS l p = (0, 0, 701) := by
  unfold getS
  split
  · split <;> simp
  · split <;> simp
theorem unzig_zig (x : Int) : unzig (zig x) = x := by
  unfold unzig zig
  by_cases h : 0 ≤ x
  · rw [if_pos h, if_pos (by omega)]; omega
  · rw [if_neg h, if_neg (by omega)]; omega
theorem zig_unzig (u : Nat) : zig (unzig u) = u := by
  unfold unzig zig
  by_cases h : u % 2 = 0
  · rw [if_pos h, if_pos (by omega)]; omega
  · rw [if_neg h, if_neg (by omega)]; omega
theorem zig_lt {x : Int} (h1 : -9223372036854775808 ≤ x) (h2 : x ≤ 9223372036854775807) : zig x < 18446744073709551616 := by
  unfold zig; split <;> omega
theorem unzig_range {u : Nat} (h : u < 18446744073709551616) : -9223372036854775808 ≤ unzig u ∧ unzig u ≤ 9223372036854775807 := by
  unfold unzig; split <;> omega
theorem getS_cut {u : Nat} (hu : u < 18446744073709551616) (m : Nat) (hm : m < (enc u).length) (p : Int) : getS ((enc u).take m) p = (0, 0, 701) := by
  have h10 := enc_len10 hu
  unfold getS
  rw [List.take_take, Nat.min_eq_right (by omega), fin_cut 10 u (Nat.lt_of_lt_of_le hu (by decide)) m hm, if_pos rfl, if_pos (by rw [List.length_take]; omega)]
theorem enc_inj {u v : Nat} (hu : u < 18446744073709551616) (hv : v < 18446744073709551616) (r t : List Nat) (h : enc u ++ r = enc v ++ t) : u = v ∧ r = t := by
  have h1 := getS_enc hu r 0
  have h2 := getS_enc hv t 0
  rw [h, h2] at h1
  simp only [Prod.mk.injEq] at h1
  have e : u = v := by rw [← zig_unzig u, ← zig_unzig v, h1.1]
  subst e
  exact ⟨rfl, List.append_cancel_left h⟩

theorem fin_small {b : Nat} (h : b < 128) (r : List Nat) : fin (b :: r) = 1 := by simp [fin, h]
theorem fin_big0 {b : Nat} (h : ¬ b < 128) {r : List Nat} (z : fin r = 0) : fin (b :: r) = 0 := by simp [fin, h, z]
theorem fin_big1 {b : Nat} (h : ¬ b < 128) {r : List Nat} (z : fin r ≠ 0) : fin (b :: r) = fin r + 1 := by simp [fin, h, z]

/-! ### vbits -/
theorem u8or_all : ∀ n : Fin 256, Go.bits .or .u8 (n.val : Int) 128 = ((n.val % 128 + 128 : Nat) : Int) := by decide +kernel
theorem u8and_all : ∀ n : Fin 256, Go.bits .and .u8 (n.val : Int) 127 = ((n.val % 128 : Nat) : Int) := by decide +kernel
theorem u8or (n : Nat) (h : n < 256) : Go.bits .or .u8 (n : Int) 128 = ((n % 128 + 128 : Nat) : Int) := u8or_all ⟨n, h⟩
theorem u8and (n : Nat) (h : n < 256) : Go.bits .and .u8 (n : Int) 127 = ((n % 128 : Nat) : Int) := u8and_all ⟨n, h⟩
theorem wrap_u64 (n : Int) : IntKind.u64.wrap n = n % 18446744073709551616 := by simp [IntKind.wrap, IntKind.bits, IntKind.signed]
theorem wrap_u64_id {n : Int} (h0 : 0 ≤ n) (h1 : n < 18446744073709551616) : IntKind.u64.wrap n = n := by rw [wrap_u64]; omega
theorem bv_nat (x : Nat) (h : x < 18446744073709551616) : (BitVec.ofInt 64 (x : Int)).toNat = x := by
  rw [BitVec.ofInt_natCast, BitVec.toNat_ofNat]; exact Nat.mod_eq_of_lt h
theorem xor64_zero (x : Nat) (h : x < 18446744073709551616) : Go.bits .xor .u64 (x : Int) 0 = (x : Int) := by
  show IntKind.u64.wrap (((BitVec.ofInt 64 (x : Int) ^^^ BitVec.ofInt 64 0).toNat : Nat) : Int) = _
  rw [show BitVec.ofInt 64 0 = 0#64 from rfl, BitVec.xor_zero, bv_nat x h, wrap_u64]; omega
theorem xor64_ones (x : Nat) (h : x < 18446744073709551616) : Go.bits .xor .u64 (x : Int) 18446744073709551615 = 18446744073709551615 - (x : Int) := by
  show IntKind.u64.wrap (((BitVec.ofInt 64 (x : Int) ^^^ BitVec.ofInt 64 18446744073709551615).toNat : Nat) : Int) = _
  rw [show BitVec.ofInt 64 18446744073709551615 = BitVec.allOnes 64 from by decide, BitVec.xor_allOnes, BitVec.toNat_not, bv_nat x h, wrap_u64]; omega
theorem xori_zero (x : Nat) (h : x < 9223372036854775808) : Go.bits .xor .i64 (x : Int) 0 = (x : Int) := by
  show IntKind.i64.wrap (((BitVec.ofInt 64 (x : Int) ^^^ BitVec.ofInt 64 0).toNat : Nat) : Int) = _
  rw [show BitVec.ofInt 64 0 = 0#64 from rfl, BitVec.xor_zero, bv_nat x (by omega), IntKind.wrap_i64]; omega
theorem xori_ones (x : Nat) (h : x < 9223372036854775808) : Go.bits .xor .i64 (x : Int) (-1) = -(x : Int) - 1 := by
  show IntKind.i64.wrap (((BitVec.ofInt 64 (x : Int) ^^^ BitVec.ofInt 64 (-1)).toNat : Nat) : Int) = _
  rw [show BitVec.ofInt 64 (-1) = BitVec.allOnes 64 from by decide, BitVec.xor_allOnes, BitVec.toNat_not, bv_nat x (by omega), IntKind.wrap_i64]; omega
theorem and64_one (x : Nat) (h : x < 18446744073709551616) : Go.bits .and .u64 (x : Int) 1 = ((x % 2 : Nat) : Int) := by
  have := bits_mask .u64 64 (Nat.le_refl _) (fun n h0 h1 => wrap_u64_id h0 (by simpa using h1)) 1 (by decide) (x : Int) (by omega) (by simpa using Int.ofNat_lt.2 h)
  simpa using this
theorem or64 (x y : Nat) (hx : x < 18446744073709551616) (hd : x % 128 = 0) (hy : y < 128) : Go.bits .or .u64 (x : Int) (y : Int) = ((x + y : Nat) : Int) := by
  have := bits_join .u64 64 (Nat.le_refl _) (fun n h0 h1 => wrap_u64_id h0 (by simpa using h1)) 7 (x : Int) (y : Int) (by omega) (by simp; omega) (by simpa using Int.ofNat_lt.2 hx) (by omega) (by simp; omega) (by simp; omega)
  rw [this]; simp
/-- Bytes of small numbers. -/
def S (l : List Nat) : ByteArray := strOfNums (l.map fun n : Nat => (n : Int))
theorem L_S {l : List Nat} (h : ∀ x ∈ l, x < 256) : L (S l) = l := L_str l h
theorem put_u {x : Int} (h1 : -9223372036854775808 ≤ x) (h2 : x ≤ 9223372036854775807) :
    Go.bits .xor .u64 (IntKind.u64.wrap ((IntKind.u64.wrap x) * 2)) (IntKind.u64.wrap (x / 9223372036854775808)) = ((zig x : Nat) : Int) := by
  unfold zig
  by_cases h : 0 ≤ x
  · have e1 : IntKind.u64.wrap (x / 9223372036854775808) = 0 := by rw [wrap_u64]; omega
    have e2 : IntKind.u64.wrap ((IntKind.u64.wrap x) * 2) = (((2 * x).toNat : Nat) : Int) := by rw [wrap_u64, wrap_u64]; omega
    rw [e1, e2, xor64_zero _ (by omega), if_pos h]
  · have e1 : IntKind.u64.wrap (x / 9223372036854775808) = 18446744073709551615 := by rw [wrap_u64]; omega
    have e2 : IntKind.u64.wrap ((IntKind.u64.wrap x) * 2) = (((2 * x + 18446744073709551616).toNat : Nat) : Int) := by rw [wrap_u64, wrap_u64]; omega
    rw [e1, e2, xor64_ones _ (by omega), if_neg h]; omega
theorem xor64_ones' (x : Nat) (h : x < 18446744073709551616) : Go.bits .xor .u64 18446744073709551615 (x : Int) = 18446744073709551615 - (x : Int) := by
  show IntKind.u64.wrap (((BitVec.ofInt 64 18446744073709551615 ^^^ BitVec.ofInt 64 (x : Int)).toNat : Nat) : Int) = _
  rw [show BitVec.ofInt 64 18446744073709551615 = BitVec.allOnes 64 from by decide, BitVec.xor_comm, BitVec.xor_allOnes, BitVec.toNat_not, bv_nat x h, wrap_u64]; omega
theorem or128u_all : ∀ n : Fin 128, (Go.bits .or .u64 (n.val : Int) 128) % 256 = ((n.val + 128 : Nat) : Int) := by decide +kernel
theorem and127u (x : Nat) (h : x < 18446744073709551616) : Go.bits .and .u64 (x : Int) 127 = ((x % 128 : Nat) : Int) := by
  have := bits_mask .u64 64 (Nat.le_refl _) (fun n h0 h1 => wrap_u64_id h0 (by simpa using h1)) 7 (by decide) (x : Int) (by omega) (by simpa using Int.ofNat_lt.2 h)
  simpa using this
theorem fin_app0 (b : Nat) (hb : ¬ b < 128) : ∀ l, fin l = 0 → fin (l ++ [b]) = 0 := by
  intro l
  induction l with
  | nil => intro _; simp [fin, hb]
  | cons c r ih =>
    intro h
    by_cases c1 : c < 128
    · simp [fin, c1] at h
    · have hr : fin r = 0 := by
        by_cases z : fin r = 0
        · exact z
        · simp [fin, c1, z] at h
      simp [fin, c1, ih hr]
theorem fin_app1 (b : Nat) (hb : b < 128) (t : List Nat) : ∀ l, fin l = 0 → fin (l ++ b :: t) = l.length + 1 := by
  intro l
  induction l with
  | nil => intro _; simp [fin, hb]
  | cons c r ih =>
    intro h
    by_cases c1 : c < 128
    · simp [fin, c1] at h
    · have hr : fin r = 0 := by
        by_cases z : fin r = 0
        · exact z
        · simp [fin, c1, z] at h
      simp [fin, c1, ih hr]

/-! ### vcode -/
theorem put_l0 (n : Nat) : ∀ (u : Nat) (acc : List Nat), u < 128 ^ (n + 1) → acc.length + n + 1 < 140737488355328 → ∀ k, n < k → varint_Put.l0 k (u : Int) (acc.map fun n : Nat => (n : Int)) = some (S (acc ++ enc u)) := by
  induction n with
  | zero =>
    intro u acc hu hl k hk
    obtain ⟨k, rfl⟩ : ∃ m, k = m + 1 := ⟨k - 1, by omega⟩
    have hu : u < 128 := by simpa using hu
    simp only [varint_Put.l0]
    rw [if_neg (by omega), List.length_map, if_pos (by omega), enc_small hu]
    rw [show (u : Int) % 256 = (u : Int) by omega]
    simp [S]
  | succ n ih =>
    intro u acc hu hl k hk
    obtain ⟨k, rfl⟩ : ∃ m, k = m + 1 := ⟨k - 1, by omega⟩
    simp only [varint_Put.l0]
    by_cases h : u < 128
    · rw [if_neg (by omega), List.length_map, if_pos (by omega), enc_small h]
      rw [show (u : Int) % 256 = (u : Int) by omega]
      simp [S]
    · rw [if_pos (by omega), List.length_map, if_pos (by omega)]
      have e1 : (u : Int) / 128 = ((u / 128 : Nat) : Int) := by omega
      have e2 : (u : Int) % 256 = ((u % 256 : Nat) : Int) := by omega
      rw [e1, e2, u8or _ (by omega), enc_big h]
      have e3 : u % 256 % 128 + 128 = u % 128 + 128 := by omega
      rw [e3]
      rw [Nat.pow_succ] at hu
      have := ih (u / 128) (acc ++ [u % 128 + 128]) (by omega) (by simp; omega) k (by omega)
      rw [List.map_append] at this
      simp only [List.map_cons, List.map_nil] at this
      rw [this, List.append_assoc]; rfl
theorem put_ev {x : Int} (h1 : -9223372036854775808 ≤ x) (h2 : x ≤ 9223372036854775807) : ∀ k, 11 ≤ k → varint_Put.f k x = some (S (enc (zig x))) := by
  intro k hk
  unfold varint_Put.f
  rw [put_u h1 h2]
  exact put_l0 9 (zig x) [] (Nat.lt_of_lt_of_le (zig_lt h1 h2) (by decide)) (by simp) k (by omega)
theorem L_put {x : Int} (h1 : -9223372036854775808 ≤ x) (h2 : x ≤ 9223372036854775807) : L (S (enc (zig x))) = enc (zig x) :=
  L_S (enc_lt 10 _ (Nat.lt_of_lt_of_le (zig_lt h1 h2) (by decide)))
def eo (n i : Nat) : Nat := if n = 0 then 0 else i + n
theorem eo_zero (i : Nat) : eo 0 i = 0 := rfl
theorem eo_pos {n : Nat} (h : n ≠ 0) (i : Nat) : eo n i = i + n := by unfold eo; rw [if_neg h]
theorem ends_l0 (s : ByteArray) (m : Nat) (hm : m ≤ s.size) (h10 : m ≤ 10) (d : Nat) : ∀ (i k : Nat), m - i = d → i ≤ m → d < k →
    varint_ends.l0 k s (m : Int) (i : Int) = some ((eo (fin (((L s).take m).drop i)) i : Nat) : Int) := by
  have hlen := L_len s
  induction d with
  | zero =>
    intro i k hd hi hk
    obtain ⟨k, rfl⟩ : ∃ m, k = m + 1 := ⟨k - 1, by omega⟩
    obtain rfl : i = m := by omega
    simp only [varint_ends.l0]
    rw [if_neg (by omega), List.drop_eq_nil_of_le (by rw [List.length_take]; omega)]
    rfl
  | succ d ih =>
    intro i k hd hi hk
    obtain ⟨k, rfl⟩ : ∃ m, k = m + 1 := ⟨k - 1, by omega⟩
    simp only [varint_ends.l0]
    have hlt : i < ((L s).take m).length := by rw [List.length_take]; omega
    rw [if_pos (by omega), if_pos (by omega), if_pos (by omega), List.drop_eq_getElem_cons hlt]
    have hb : bt s (i : Int) = ((((L s).take m)[i] : Nat) : Int) := by
      rw [bt_L, Int.toNat_natCast, List.getElem_take, List.getD_eq_getElem?_getD, List.getElem?_eq_getElem (by omega)]; rfl
    have hw : wrap64 ((i : Int) + 1) = ((i + 1 : Nat) : Int) := by rw [wrap64_id (by omega) (by omega)]; omega
    rw [hb, hw]
    clear hb hw
    by_cases c : ((L s).take m)[i] < 128
    · have hc : ((((L s).take m)[i] : Nat) : Int) < 128 := by omega
      have e := fin_small c (List.drop (i + 1) (List.take m (L s)))
      rw [if_pos hc, e, eo_pos (by decide)]
    · have hc : ¬ ((((L s).take m)[i] : Nat) : Int) < 128 := by omega
      rw [if_neg hc, ih (i + 1) k (by omega) (by omega) (by omega)]
      by_cases z : fin (((L s).take m).drop (i + 1)) = 0
      · have e := fin_big0 c z
        rw [e, z, eo_zero, eo_zero]
      · have e := fin_big1 c z
        rw [e, eo_pos z, eo_pos (by omega)]
        congr 2; omega
theorem ends_ev (s : ByteArray) : ∀ k, 12 ≤ k → varint_ends.f k s = some ((fin ((L s).take 10) : Nat) : Int) := by
  intro k hk
  have hlen := L_len s
  unfold varint_ends.f
  have hm : mn (s.size : Int) 10 = ((min s.size 10 : Nat) : Int) := by unfold mn; split <;> omega
  rw [hm, show (0 : Int) = ((0 : Nat) : Int) from rfl, ends_l0 s (min s.size 10) (by omega) (by omega) (min s.size 10) 0 k (by omega) (by omega) (by omega)]
  rw [List.drop_zero]
  have ht : (L s).take (min s.size 10) = (L s).take 10 := by
    by_cases c : s.size ≤ 10
    · rw [Nat.min_eq_left c, List.take_of_length_le (by omega), List.take_of_length_le (by omega)]
    · rw [Nat.min_eq_right (by omega)]
  rw [ht]
  by_cases z : fin ((L s).take 10) = 0
  · rw [z, eo_zero]
  · rw [eo_pos z, Nat.zero_add]
theorem val_drop (l : List Nat) : ∀ i, val (l.drop i) ≤ val l := by
  induction l with
  | nil => intro i; simp
  | cons b r ih =>
    intro i
    cases i with
    | zero => simp
    | succ i => have := ih i; simp only [List.drop_succ_cons, val]; omega
theorem get_l0 (s : ByteArray) (p n : Nat) (hn : n ≤ 10) (hp : p + n ≤ s.size) (hs : s.size ≤ 4611686018427387904) (hv : val (((L s).drop p).take n) < 18446744073709551616) :
    ∀ i k, i ≤ n → i < k → varint_Get.l0 k s (p : Int) (n : Int) ((val ((((L s).drop p).take n).drop i) : Nat) : Int) ((i : Int) - 1) = some (unzig (val (((L s).drop p).take n)), ((p + n : Nat) : Int), 0) := by
  have hlen := L_len s
  intro i
  induction i with
  | zero =>
    intro k _ hk
    obtain ⟨k, rfl⟩ : ∃ m, k = m + 1 := ⟨k - 1, by omega⟩
    simp only [varint_Get.l0]
    rw [if_neg (by omega), List.drop_zero]
    generalize val (((L s).drop p).take n) = u at *
    rw [and64_one u hv, wrap64_id (n := (p : Int) + (n : Int)) (by omega) (by omega), show (u : Int) / 2 = ((u / 2 : Nat) : Int) by omega, wrap64_id (n := ((u / 2 : Nat) : Int)) (by omega) (by omega)]
    unfold unzig
    by_cases c : u % 2 = 0
    · rw [if_pos c, c]
      rw [show wrap64 (-(wrap64 ((0 : Nat) : Int))) = 0 from by decide +kernel, xori_zero _ (by omega)]; simp
    · rw [if_neg c, show u % 2 = 1 by omega]
      rw [show wrap64 (-(wrap64 ((1 : Nat) : Int))) = -1 from by decide +kernel, xori_ones _ (by omega)]; simp
  | succ i ih =>
    intro k hi hk
    obtain ⟨k, rfl⟩ : ∃ m, k = m + 1 := ⟨k - 1, by omega⟩
    simp only [varint_Get.l0]
    have e0 : ((i + 1 : Nat) : Int) - 1 = (i : Int) := by omega
    have e1 : wrap64 ((p : Int) + (i : Int)) = ((p + i : Nat) : Int) := by rw [wrap64_id (by omega) (by omega)]; omega
    have e2 : wrap64 ((i : Int) - 1) = (i : Int) - 1 := wrap64_id (by omega) (by omega)
    rw [e0, e1, e2, if_pos (by omega), if_pos (by omega), if_pos (by omega)]
    have hlt : i < (((L s).drop p).take n).length := by rw [List.length_take, List.length_drop]; omega
    have hd := val_drop (((L s).drop p).take n) i
    have ih := ih k (by omega) (by omega)
    rw [List.drop_eq_getElem_cons hlt] at hd ih
    have hb : bt s ((p + i : Nat) : Int) = (((((L s).drop p).take n)[i] : Nat) : Int) := by
      rw [bt_L, Int.toNat_natCast, List.getElem_take, List.getElem_drop, List.getD_eq_getElem?_getD, List.getElem?_eq_getElem (by omega)]; rfl
    have hb2 : (((L s).drop p).take n)[i] < 256 := L_lt s _ (List.mem_of_mem_drop (List.mem_of_mem_take (List.getElem_mem hlt)))
    rw [hb]
    clear hb
    generalize (((L s).drop p).take n)[i] = b at *
    simp only [val] at hd ih
    generalize val ((((L s).drop p).take n).drop (i + 1)) = u at *
    rw [u8and b hb2, wrap_u64_id (n := (u : Int) * 128) (by omega) (by omega), wrap_u64_id (n := ((b % 128 : Nat) : Int)) (by omega) (by omega)]
    rw [show (u : Int) * 128 = ((u * 128 : Nat) : Int) by omega, or64 _ _ (by omega) (by omega) (by omega)]
    rw [show u * 128 + b % 128 = b % 128 + 128 * u by omega]
    exact ih
theorem w_last (p j : Nat) (h : p + j ≤ 4611686018427387904) : wrap64 (wrap64 ((p : Int) + ((j + 1 : Nat) : Int)) - 1) = ((p + j : Nat) : Int) := by
  rw [wrap64_id (n := (p : Int) + ((j + 1 : Nat) : Int)) (by omega) (by omega), wrap64_id (by omega) (by omega)]; omega
theorem w_1p (n : Nat) (h : n ≤ 4611686018427387904) : wrap64 (1 + (n : Int)) = ((n + 1 : Nat) : Int) := by
  rw [wrap64_id (by omega) (by omega)]; omega
theorem w_p1 (n : Nat) (h : n ≤ 4611686018427387904) : wrap64 ((n : Int) + 1) = ((n + 1 : Nat) : Int) := by
  rw [wrap64_id (by omega) (by omega)]; omega
theorem w_m1 (n : Nat) (h : n ≤ 4611686018427387904) (h1 : 1 ≤ n) : wrap64 ((n : Int) - 1) = ((n - 1 : Nat) : Int) := by
  rw [wrap64_id (by omega) (by omega)]; omega
theorem w_add (n p : Nat) (h : n + p ≤ 4611686018427387904) : wrap64 ((n : Int) + (p : Int)) = ((n + p : Nat) : Int) := by
  rw [wrap64_id (by omega) (by omega)]; omega
theorem w_sub (n p : Nat) (h : n ≤ 4611686018427387904) (hp : p ≤ n) : wrap64 ((n : Int) - (p : Int)) = ((n - p : Nat) : Int) := by
  rw [wrap64_id (by omega) (by omega)]; omega
theorem w_one (m : Nat) (h : m ≤ 4611686018427387904) : wrap64 (((m + 1 : Nat) : Int) - 1) = ((m + 1 : Nat) : Int) - 1 := wrap64_id (by omega) (by omega)
theorem get_ev (s : ByteArray) (p : Nat) (hp : p ≤ s.size) (hs : s.size ≤ 4611686018427387904) : ∀ k, 20 ≤ k → varint_Get.f k s (p : Int) = some (getS ((L s).drop p) (p : Int)) := by
  intro k hk
  have hlen := L_len s
  obtain ⟨k, rfl⟩ : ∃ m, k = m + 3 := ⟨k - 3, by omega⟩
  unfold varint_Get.f
  rw [if_neg (by omega), decide_eq_false (by omega)]
  simp only [varint_Get.j0]
  rw [if_neg (by decide), if_pos (by omega), if_pos (by omega), ends_ev _ _ (by omega), L_extract, List.take_of_length_le (l := L s) (i := s.size) (by omega), Int.toNat_natCast]
  simp only [Option.bind_some]
  have hll : ((L s).drop p).length = s.size - p := by rw [List.length_drop, hlen]
  rw [w_sub s.size p hs hp]
  have hf := fin_le (((L s).drop p).take 10)
  rw [List.length_take, hll] at hf
  have hvb := val_bound ((L s).drop p)
  have hget : ∀ j, j < s.size - p → bt s (wrap64 (wrap64 ((p : Int) + ((j + 1 : Nat) : Int)) - 1)) = ((((L s).drop p).getD j 0 : Nat) : Int) ∧ 0 ≤ wrap64 (wrap64 ((p : Int) + ((j + 1 : Nat) : Int)) - 1) ∧ wrap64 (wrap64 ((p : Int) + ((j + 1 : Nat) : Int)) - 1) < (s.size : Int) := by
    intro j hj
    have q : p + j ≤ 4611686018427387904 := by omega
    rw [w_last p j q]
    refine ⟨?_, by omega, by omega⟩
    rw [bt_L, Int.toNat_natCast, List.getD_eq_getElem?_getD, List.getD_eq_getElem?_getD, List.getElem?_drop]
  have hbb : ∀ j, ((L s).drop p).getD j 0 < 256 := by
    intro j
    rw [List.getD_eq_getElem?_getD]
    by_cases c : j < ((L s).drop p).length
    · rw [List.getElem?_eq_getElem c]
      exact L_lt s _ (List.mem_of_mem_drop (List.getElem_mem c))
    · rw [List.getElem?_eq_none (by omega)]; simp
  unfold getS
  rw [hll]
  generalize hl : (L s).drop p = l at *
  generalize hn : fin (l.take 10) = n at *
  by_cases h0 : n = 0
  · subst h0
    rw [if_pos (show ((0 : Nat) : Int) = 0 from rfl)]
    simp only [varint_Get.j1]
    by_cases c : s.size - p < 10
    · have c' : ((s.size - p : Nat) : Int) < 10 := by omega
      rw [decide_eq_true c', if_pos (show true = true from rfl), if_pos True.intro, if_pos c]
    · have c' : ¬ ((s.size - p : Nat) : Int) < 10 := by omega
      rw [decide_eq_false c', if_neg (show ¬ false = true by decide), if_pos (show ((0 : Nat) : Int) = 0 from rfl), if_pos True.intro, if_neg c]
  · rw [if_neg (by omega), if_neg h0]
    simp only [varint_Get.j1]
    obtain ⟨m, rfl⟩ : ∃ m, n = m + 1 := ⟨n - 1, by omega⟩
    obtain ⟨g1, g2, g3⟩ := hget m (by omega)
    rw [if_neg (by decide), if_neg (by omega), g1, if_pos g2, if_pos g3, if_pos g2, if_pos g3]
    have hfin : (¬ ((m + 1 = 10 ∧ 1 < l.getD 9 0) ∨ (1 < m + 1 ∧ l.getD (m + 1 - 1) 0 = 0))) → varint_Get.j2 (k + 1) s (p : Int) ((m + 1 : Nat) : Int) = some (unzig (val (l.take (m + 1))), (p : Int) + ((m + 1 : Nat) : Int), 0) := by
      intro hc
      simp only [varint_Get.j2]
      have hv := hvb (by omega) hc
      have := get_l0 s p (m + 1) (by omega) (by omega) hs (by rw [hl]; exact hv) (m + 1) k (by omega) (by omega)
      rw [hl, List.drop_eq_nil_of_le (by rw [List.length_take]; omega)] at this
      simp only [val] at this
      rw [w_one m (by omega)]
      rw [show ((0 : Nat) : Int) = 0 from rfl] at this
      rw [this]
      congr 3
    have hm : m + 1 - 1 = m := by omega
    by_cases c1 : m + 1 = 10
    · obtain rfl : m = 9 := by omega
      rw [if_pos (by decide)]
      by_cases c2 : 1 < l.getD 9 0
      · rw [if_pos (by omega), if_pos (Or.inl ⟨rfl, c2⟩)]
      · rw [if_neg (by omega), if_pos (by decide)]
        by_cases c3 : l.getD 9 0 = 0
        · rw [if_pos (by omega), if_pos (Or.inr ⟨by omega, c3⟩)]
        · have hc : ¬ ((9 + 1 = 10 ∧ 1 < l.getD 9 0) ∨ (1 < 9 + 1 ∧ l.getD (9 + 1 - 1) 0 = 0)) := by
            show ¬ ((10 = 10 ∧ 1 < l.getD 9 0) ∨ (1 < 10 ∧ l.getD 9 0 = 0))
            omega
          rw [if_neg (by omega), hfin hc, if_neg hc]
    · rw [if_neg (by omega)]
      by_cases c2 : 1 < m + 1
      · rw [if_pos (by omega)]
        by_cases c3 : l.getD m 0 = 0
        · rw [if_pos (by omega), if_pos (Or.inr ⟨c2, c3⟩)]
        · rw [if_neg (by omega), hfin (by rw [hm]; omega), if_neg (by rw [hm]; omega)]
      · rw [if_neg (by omega), hfin (by omega), if_neg (by omega)]
theorem get_form (s : ByteArray) (p : Int) (h : p < 0 ∨ (s.size : Int) < p) : ∀ k, 1 ≤ k → varint_Get.f k s p = some (0, 0, 700) := by
  intro k hk
  obtain ⟨k, rfl⟩ : ∃ m, k = m + 1 := ⟨k - 1, by omega⟩
  unfold varint_Get.f
  by_cases c : p < 0
  · rw [if_pos c]; simp [varint_Get.j0]
  · rw [if_neg c, decide_eq_true (by omega)]; simp [varint_Get.j0]

/-! ### wire9 -/
def rng (x : Int) : Prop := -9223372036854775808 ≤ x ∧ x ≤ 9223372036854775807
def encs : List Int → List Nat
  | [] => []
  | x :: xs => enc (zig x) ++ encs xs
theorem S_L9 (b : ByteArray) : S (L b) = b := L_inj (L_S (L_lt b))
theorem all_l0 (xs : List Int) (hr : ∀ x ∈ xs, rng x) (hx : xs.length ≤ 100) (d : Nat) : ∀ (i k : Nat) (acc : ByteArray), xs.length - i = d → i ≤ xs.length → d + 12 ≤ k → acc.size + 10 * d ≤ 4611686018427387904 →
    varint_All.l0 k acc xs (xs.length : Int) (i : Int) = some (S (L acc ++ encs (xs.drop i))) := by
  induction d with
  | zero =>
    intro i k acc hd hi hk ha
    obtain ⟨k, rfl⟩ : ∃ m, k = m + 1 := ⟨k - 1, by omega⟩
    simp only [varint_All.l0]
    rw [if_neg (by omega), List.drop_eq_nil_of_le (by omega), encs, List.append_nil, S_L9]
  | succ d ih =>
    intro i k acc hd hi hk ha
    obtain ⟨k, rfl⟩ : ∃ m, k = m + 1 := ⟨k - 1, by omega⟩
    simp only [varint_All.l0]
    have hlt : i < xs.length := by omega
    have e : rd xs (i : Int) = xs[i] := by
      unfold rd; rw [Int.toNat_natCast, List.getD_eq_getElem?_getD, List.getElem?_eq_getElem hlt]; rfl
    have hx1 := hr xs[i] (List.getElem_mem hlt)
    have hp := L_put hx1.1 hx1.2
    have hz : (S (enc (zig xs[i]))).size ≤ 10 := by rw [← L_len, hp]; exact enc_len10 (zig_lt hx1.1 hx1.2)
    have hw : wrap64 ((i : Int) + 1) = ((i + 1 : Nat) : Int) := by rw [wrap64_id (by omega) (by omega)]; omega
    rw [if_pos (by omega), if_pos (by omega), if_pos (by omega), e, put_ev hx1.1 hx1.2 k (by omega), Option.bind_some, if_pos (by omega), hw,
      ih (i + 1) k _ (by omega) (by omega) (by omega) (by rw [ByteArray.size_append]; omega), L_append, hp, List.drop_eq_getElem_cons hlt, encs, List.append_assoc]
theorem all_ev (xs : List Int) (hr : ∀ x ∈ xs, rng x) (hx : xs.length ≤ 100) (k : Nat) (hk : xs.length + 12 ≤ k) : varint_All.f k xs = some (S (encs xs)) := by
  unfold varint_All.f
  have h := all_l0 xs hr hx xs.length 0 k (⟨#[]⟩ : ByteArray) (by omega) (by omega) hk (by show (0 : Nat) + 10 * xs.length ≤ _; omega)
  rw [show ((0 : Nat) : Int) = 0 from rfl, List.drop_zero, show L (⟨#[]⟩ : ByteArray) = [] by decide +kernel, List.nil_append] at h
  exact h
def oenc (a0 a1 a2 a3 a4 : Int) : List Nat := if a0 = 0 then encs [a0, a1, a2, a3, a4] else if a0 = 1 then encs [a0, a1, a3] else encs [a0]
theorem oMay_rng {a0 a1 a2 a3 a4 : Int} (h : oMay a0 a1 a2 a3 a4 = true) : 0 ≤ a0 ∧ a0 ≤ 2 ∧ 0 ≤ a1 ∧ a1 < 8 ∧ 0 ≤ a2 ∧ a2 ≤ 1048575 ∧ -4398046511104 ≤ a3 ∧ a3 ≤ 4398046511104 ∧ -4398046511104 ≤ a4 ∧ a4 ≤ 4398046511104 := by
  unfold oMay srcMay markMay sampMay at h
  by_cases c : a0 = 0
  · rw [if_pos c] at h; have := of_decide_eq_true h; omega
  · rw [if_neg c] at h
    by_cases c1 : a0 = 1
    · rw [if_pos c1] at h; simp only [Bool.and_eq_true, decide_eq_true_eq, beq_iff_eq] at h; omega
    · rw [if_neg c1] at h; simp only [Bool.and_eq_true, beq_iff_eq] at h; omega
theorem put_no {a0 a1 a2 a3 a4 : Int} (h : oMay a0 a1 a2 a3 a4 = false) (k : Nat) : wire_Put.f k a0 a1 a2 a3 a4 = some ((⟨#[]⟩ : ByteArray), 900) := by
  unfold wire_Put.f wire_May.f
  rw [h]; rfl
theorem put_ok {a0 a1 a2 a3 a4 : Int} (h : oMay a0 a1 a2 a3 a4 = true) (k : Nat) (hk : 20 ≤ k) : wire_Put.f k a0 a1 a2 a3 a4 = some (S (oenc a0 a1 a2 a3 a4), 0) := by
  have hr := oMay_rng h
  unfold wire_Put.f wire_May.f oenc
  rw [h, Option.bind_some, if_pos rfl]
  have r5 : ∀ x ∈ [a0, a1, a2, a3, a4], rng x := by
    intro x hx; simp only [List.mem_cons, List.not_mem_nil, or_false] at hx; unfold rng; omega
  have r3 : ∀ x ∈ [a0, a1, a3], rng x := by
    intro x hx; simp only [List.mem_cons, List.not_mem_nil, or_false] at hx; unfold rng; omega
  have r1 : ∀ x ∈ [a0], rng x := by
    intro x hx; simp only [List.mem_cons, List.not_mem_nil, or_false] at hx; unfold rng; omega
  by_cases c : a0 = 0
  · rw [if_pos c, if_pos c, all_ev _ r5 (by simp) k (by simp; omega)]; rfl
  · rw [if_neg c, if_neg c]
    by_cases c1 : a0 = 1
    · rw [if_pos c1, if_pos c1, all_ev _ r3 (by simp) k (by simp; omega)]; rfl
    · rw [if_neg c1, if_neg c1, all_ev _ r1 (by simp) k (by simp; omega)]; rfl
/-! the reader on lists -/
def numM (l : List Nat) (p : Int) (b : Bool) : Int × Int × Bool := if b = true then (0, p, true) else if (getS (l.drop p.toNat) p).2.2 = 0 then ((getS (l.drop p.toNat) p).1, (getS (l.drop p.toNat) p).2.1, false) else (0, p, true)
theorem num_ev (s : ByteArray) (hs : s.size ≤ 4611686018427387904) (p : Int) (b : Bool) (h0 : 0 ≤ p) (h1 : p ≤ s.size) (k : Nat) (hk : 20 ≤ k) :
    varint_Reader_Num.f k s p b = some ((numM (L s) p b).1, s, (numM (L s) p b).2.1, (numM (L s) p b).2.2) := by
  unfold varint_Reader_Num.f numM
  have h := get_ev s p.toNat (by omega) hs k hk
  rw [Int.toNat_of_nonneg h0] at h
  rw [h, Option.bind_some]
  cases b with
  | true => rfl
  | false =>
    simp only [Bool.false_eq_true, reduceIte]
    by_cases c : (getS ((L s).drop p.toNat) p).2.2 = 0
    · simp only [if_pos c]
    · simp only [if_neg c]
theorem num_rng (l : List Nat) (hb : ∀ y ∈ l, y < 256) (p : Int) (b : Bool) (h0 : 0 ≤ p) (h1 : p ≤ l.length) : 0 ≤ (numM l p b).2.1 ∧ (numM l p b).2.1 ≤ l.length := by
  unfold numM
  cases b with
  | true => exact ⟨h0, h1⟩
  | false =>
    simp only [Bool.false_eq_true, reduceIte]
    by_cases c : (getS (l.drop p.toNat) p).2.2 = 0
    · simp only [if_pos c]
      obtain ⟨u, r, hu, hl, hx, hq⟩ := getS_ok (fun y hy => hb y (List.mem_of_mem_drop hy)) (show getS (l.drop p.toNat) p = ((getS (l.drop p.toNat) p).1, (getS (l.drop p.toNat) p).2.1, 0) by rw [← c])
      have hlen := congrArg List.length hl
      rw [List.length_drop, List.length_append] at hlen
      show 0 ≤ (getS (l.drop p.toNat) p).2.1 ∧ (getS (l.drop p.toNat) p).2.1 ≤ l.length
      rw [hq]; omega
    · simp only [if_neg c]; exact ⟨h0, h1⟩
def rawM (l : List Nat) : Int × Int × Int × Int × Int × Int × Bool :=
  let t0 := numM l 0 false
  if t0.1 = 0 then
    let t1 := numM l t0.2.1 t0.2.2
    let t2 := numM l t1.2.1 t1.2.2
    let t3 := numM l t2.2.1 t2.2.2
    let t4 := numM l t3.2.1 t3.2.2
    (t0.1, t1.1, t2.1, t3.1, t4.1, t4.2)
  else if t0.1 = 1 then
    let t1 := numM l t0.2.1 t0.2.2
    let t2 := numM l t1.2.1 t1.2.2
    (t0.1, t1.1, 0, t2.1, 0, t2.2)
  else (t0.1, 0, 0, 0, 0, t0.2)
def getM (l : List Nat) : Int × Int × Int × Int × Int × Int :=
  let q := rawM l
  if q.2.2.2.2.2.2 = false ∧ q.2.2.2.2.2.1 = l.length ∧ oMay q.1 q.2.1 q.2.2.1 q.2.2.2.1 q.2.2.2.2.1 = true then (q.1, q.2.1, q.2.2.1, q.2.2.2.1, q.2.2.2.2.1, 0) else (0, 0, 0, 0, 0, 900)
theorem raw_ev (s : ByteArray) (hs : s.size ≤ 4611686018427387904) (k : Nat) (hk : 20 ≤ k) : wire_Get.raw k s = some ((rawM (L s)).1, (rawM (L s)).2.1, (rawM (L s)).2.2.1, (rawM (L s)).2.2.2.1, (rawM (L s)).2.2.2.2.1, s, (rawM (L s)).2.2.2.2.2.1, (rawM (L s)).2.2.2.2.2.2) := by
  have hb := L_lt s
  have hlen := L_len s
  have N : ∀ (p : Int) (b : Bool), 0 ≤ p → p ≤ s.size → varint_Reader_Num.f k s p b = some ((numM (L s) p b).1, s, (numM (L s) p b).2.1, (numM (L s) p b).2.2) := fun p b a1 a2 => num_ev s hs p b a1 a2 k hk
  have R : ∀ (p : Int) (b : Bool), 0 ≤ p → p ≤ s.size → 0 ≤ (numM (L s) p b).2.1 ∧ (numM (L s) p b).2.1 ≤ s.size := fun p b a1 a2 => by
    have := num_rng (L s) hb p b a1 (by omega); omega
  unfold wire_Get.raw rawM
  have r0 := R 0 false (by omega) (by omega)
  rw [N 0 false (by omega) (by omega), Option.bind_some]
  dsimp only
  generalize numM (L s) 0 false = t0 at *
  by_cases c : t0.1 = 0
  · have r1 := R t0.2.1 t0.2.2 r0.1 r0.2
    have r2 := R _ (numM (L s) t0.2.1 t0.2.2).2.2 r1.1 r1.2
    have r3 := R _ (numM (L s) (numM (L s) t0.2.1 t0.2.2).2.1 (numM (L s) t0.2.1 t0.2.2).2.2).2.2 r2.1 r2.2
    rw [if_pos c, if_pos c, N _ _ r0.1 r0.2, Option.bind_some]
    dsimp only
    rw [N _ _ r1.1 r1.2, Option.bind_some]
    dsimp only
    rw [N _ _ r2.1 r2.2, Option.bind_some]
    dsimp only
    rw [N _ _ r3.1 r3.2, Option.bind_some]
  · rw [if_neg c, if_neg c]
    by_cases c1 : t0.1 = 1
    · have r1 := R t0.2.1 t0.2.2 r0.1 r0.2
      rw [if_pos c1, if_pos c1, N _ _ r0.1 r0.2, Option.bind_some]
      dsimp only
      rw [N _ _ r1.1 r1.2, Option.bind_some]
    · rw [if_neg c1, if_neg c1]
theorem get_all (s : ByteArray) (hs : s.size ≤ 4611686018427387904) (k : Nat) (hk : 20 ≤ k) : wire_Get.f k s = some (getM (L s)) := by
  have hlen := L_len s
  unfold wire_Get.f getM
  rw [raw_ev s hs k hk, Option.bind_some]
  dsimp only
  generalize rawM (L s) = q
  obtain ⟨n0, n1, n2, n3, n4, p, b⟩ := q
  dsimp only
  cases b with
  | true => simp only [reduceIte, Bool.false_eq_true, Bool.true_eq_false, false_and]
  | false =>
    by_cases c : p = (s.size : Int)
    · rw [if_pos (by simp [c])]
      by_cases m : oMay n0 n1 n2 n3 n4 = true
      · rw [if_pos m, if_pos ⟨rfl, by omega, m⟩]
      · rw [if_neg m, if_neg (fun h => m h.2.2)]
    · rw [if_neg (by simp [c]), if_neg (fun h => c (by omega))]
theorem oMay_iff {a0 a1 a2 a3 a4 : Int} : oMay a0 a1 a2 a3 a4 = true ↔ (a0 = 0 ∧ 0 ≤ a1 ∧ a1 < 8 ∧ 0 ≤ a2 ∧ a2 ≤ 1048575 ∧ -1099511627776 ≤ a3 ∧ a3 ≤ 1099511627776 ∧ -1099511627776 ≤ a4 ∧ a4 ≤ 1099511627776) ∨ (a0 = 1 ∧ 0 ≤ a1 ∧ a1 < 8 ∧ -4398046511104 < a3 ∧ a3 ≤ 4398046511104 ∧ a2 = 0 ∧ a4 = 0) ∨ (a0 = 2 ∧ a1 = 0 ∧ a2 = 0 ∧ a3 = 0 ∧ a4 = 0) := by
  unfold oMay srcMay markMay sampMay
  by_cases c : a0 = 0
  · rw [if_pos c, decide_eq_true_eq]; omega
  · rw [if_neg c]
    by_cases c1 : a0 = 1
    · rw [if_pos c1]; simp only [Bool.and_eq_true, decide_eq_true_eq, beq_iff_eq]; omega
    · rw [if_neg c1]; simp only [Bool.and_eq_true, beq_iff_eq]; omega
theorem o_no {a0 a1 a2 a3 a4 : Int} (h : ¬ ((a0 = 0 ∧ 0 ≤ a1 ∧ a1 < 8 ∧ 0 ≤ a2 ∧ a2 ≤ 1048575 ∧ -1099511627776 ≤ a3 ∧ a3 ≤ 1099511627776 ∧ -1099511627776 ≤ a4 ∧ a4 ≤ 1099511627776) ∨ (a0 = 1 ∧ 0 ≤ a1 ∧ a1 < 8 ∧ -4398046511104 < a3 ∧ a3 ≤ 4398046511104 ∧ a2 = 0 ∧ a4 = 0) ∨ (a0 = 2 ∧ a1 = 0 ∧ a2 = 0 ∧ a3 = 0 ∧ a4 = 0))) : oMay a0 a1 a2 a3 a4 = false :=
  Bool.eq_false_iff.2 (fun e => h (oMay_iff.1 e))

/-! ### awake9 -/
theorem num9 (a : Int) : bournelaw0_Num.f a = some a := rfl
theorem o9 : oMay 0 1 3 (-5) 70 = true := by unfold oMay sampMay; decide
theorem o9a : oMay 3 0 0 0 1 = false := by unfold oMay; decide
theorem o9b : oMay 2 0 0 1 0 = false := by unfold oMay; decide
theorem oe9 : oenc 0 1 3 (-5) 70 = [0, 2, 6, 9, 140, 1] := by
  unfold oenc
  rw [if_pos rfl]
  simp only [encs]
  rw [show zig 0 = 0 by decide, show zig 1 = 2 by decide, show zig 3 = 6 by decide, show zig (-5) = 9 by decide, show zig 70 = 140 by decide,
    enc_small (u := 0) (by decide), enc_small (u := 2) (by decide), enc_small (u := 6) (by decide), enc_small (u := 9) (by decide), enc_big (u := 140) (by decide), enc_small (u := 140 / 128) (by decide)]
  rfl
theorem Lo9 : L (S [0, 2, 6, 9, 140, 1]) = [0, 2, 6, 9, 140, 1] := L_S (by decide)
theorem g9 : getM [0, 2, 6, 9, 140, 1] = (0, 1, 3, -5, 70, 0) := by
  have : rawM [0, 2, 6, 9, 140, 1] = (0, 1, 3, -5, 70, 6, false) := by decide +kernel
  unfold getM
  rw [this]
  dsimp only
  rw [o9]; rfl
theorem g9a : getM ([0, 2, 6, 9, 140, 1] ++ [0]) = (0, 0, 0, 0, 0, 900) := by
  have : rawM ([0, 2, 6, 9, 140, 1] ++ [0]) = (0, 1, 3, -5, 70, 6, false) := by decide +kernel
  unfold getM
  rw [this]
  dsimp only
  rw [if_neg (by decide)]
theorem L0_9 : L (⟨#[0]⟩ : ByteArray) = [0] := by decide +kernel
theorem z9 : (S [0, 2, 6, 9, 140, 1]).size = 6 := by rw [← L_len, Lo9]; rfl
theorem z9a : (S [0, 2, 6, 9, 140, 1] ++ (⟨#[0]⟩ : ByteArray)).size = 7 := by rw [← L_len, L_append, Lo9, L0_9]; rfl
theorem awake_ev (k : Nat) (hk : 20 ≤ k) : bournelaw9_awake.f k = some true := by
  unfold bournelaw9_awake.f
  have p1 := put_ok o9 k hk
  rw [oe9] at p1
  have h1 := get_all (S [0, 2, 6, 9, 140, 1]) (by rw [z9]; decide) k hk
  rw [Lo9, g9] at h1
  have h2 := get_all (S [0, 2, 6, 9, 140, 1] ++ (⟨#[0]⟩ : ByteArray)) (by rw [z9a]; decide) k hk
  rw [L_append, Lo9, L0_9, g9a] at h2
  rw [p1, Option.bind_some]
  dsimp only
  rw [h1, Option.bind_some, if_pos (by rw [z9]; decide), h2, Option.bind_some, put_no o9a, Option.bind_some, if_pos ((toList_lit _ _).2 Lo9)]
  simp only [num9, Option.bind_some, wire_May.f, o9, o9b]
  rfl

/-! ### vref -/
theorem rput_l0 (n : Nat) : ∀ (u : Nat) (acc : List Nat), u < 128 ^ (n + 1) → u < 18446744073709551616 → acc.length + n + 1 < 140737488355328 → ∀ k, n < k → bourneref1_PutNum.l0 k (u : Int) (acc.map fun n : Nat => (n : Int)) = some (S (acc ++ enc u)) := by
  induction n with
  | zero =>
    intro u acc hu hu2 hl k hk
    obtain ⟨k, rfl⟩ : ∃ m, k = m + 1 := ⟨k - 1, by omega⟩
    have hu : u < 128 := by simpa using hu
    simp only [bourneref1_PutNum.l0]
    rw [if_neg (by omega), List.length_map, if_pos (by omega), enc_small hu]
    rw [show (u : Int) % 256 = (u : Int) by omega]
    simp [S]
  | succ n ih =>
    intro u acc hu hu2 hl k hk
    obtain ⟨k, rfl⟩ : ∃ m, k = m + 1 := ⟨k - 1, by omega⟩
    simp only [bourneref1_PutNum.l0]
    by_cases h : u < 128
    · rw [if_neg (by omega), List.length_map, if_pos (by omega), enc_small h]
      rw [show (u : Int) % 256 = (u : Int) by omega]
      simp [S]
    · rw [if_pos (by omega), List.length_map, if_pos (by omega)]
      have e1 : (u : Int) / 128 = ((u / 128 : Nat) : Int) := by omega
      have e2 : (Go.bits .or .u64 (Go.bits .and .u64 (u : Int) 127) 128) % 256 = ((u % 128 + 128 : Nat) : Int) := by
        rw [and127u u hu2]; exact or128u_all ⟨u % 128, by omega⟩
      rw [e1, e2, enc_big h]
      rw [Nat.pow_succ] at hu
      have := ih (u / 128) (acc ++ [u % 128 + 128]) (by omega) (by omega) (by simp; omega) k (by omega)
      rw [List.map_append] at this
      simp only [List.map_cons, List.map_nil] at this
      rw [this, List.append_assoc]; rfl
theorem rput_ev {x : Int} (h1 : -9223372036854775808 ≤ x) (h2 : x ≤ 9223372036854775807) : ∀ k, 12 ≤ k → bourneref1_PutNum.f k x = some (S (enc (zig x))) := by
  intro k hk
  obtain ⟨k, rfl⟩ : ∃ m, k = m + 1 := ⟨k - 1, by omega⟩
  have hz := zig_lt h1 h2
  have hfin : bourneref1_PutNum.j0 (k + 1) ((zig x : Nat) : Int) = some (S (enc (zig x))) := by
    simp only [bourneref1_PutNum.j0]
    exact rput_l0 9 (zig x) [] (Nat.lt_of_lt_of_le hz (by decide)) hz (by simp) k (by omega)
  unfold bourneref1_PutNum.f
  by_cases h : x < 0
  · have e2 : IntKind.u64.wrap ((IntKind.u64.wrap x) * 2) = (((2 * x + 18446744073709551616).toNat : Nat) : Int) := by rw [wrap_u64, wrap_u64]; omega
    rw [if_pos h, e2, xor64_ones' _ (by omega), ← hfin]
    congr 1; unfold zig; rw [if_neg (by omega)]; omega
  · have e2 : IntKind.u64.wrap ((IntKind.u64.wrap x) * 2) = ((zig x : Nat) : Int) := by unfold zig; rw [if_pos (by omega), wrap_u64, wrap_u64]; omega
    rw [if_neg h, e2, hfin]
theorem ror_sh (l : List Nat) (i c : Nat) (hil : i ≤ l.length) (h9 : i ≤ 9) (hc : c < 128) (hc9 : i < 9 ∨ c ≤ 1) :
    Go.bits .or .u64 ((val (l.take i) : Nat) : Int) (shl .u64 ((c : Nat) : Int) ((7 * i : Nat) : Int)) = ((val (l.take i) + 128 ^ i * c : Nat) : Int) := by
  have hvl := val_lt (l.take i)
  rw [List.length_take, Nat.min_eq_left hil] at hvl
  have hp7 : (128 : Nat) ^ i = 2 ^ (7 * i) := by rw [show (128 : Nat) = 2 ^ 7 from rfl, ← Nat.pow_mul]
  have hv64 : val (l.take i) < 2 ^ 64 := by
    have : (128 : Nat) ^ i ≤ 128 ^ 9 := Nat.pow_le_pow_right (by decide) (by omega)
    exact Nat.lt_of_lt_of_le hvl (Nat.le_trans this (by decide))
  have hpb : 128 ^ i * c < 18446744073709551616 := by
    rcases hc9 with h9 | h1
    · have h1 : (128 : Nat) ^ i ≤ 128 ^ 8 := Nat.pow_le_pow_right (by decide) (by omega)
      have h2 : 128 ^ i * c ≤ 128 ^ 8 * 127 := Nat.mul_le_mul h1 (by omega)
      exact Nat.lt_of_le_of_lt h2 (by decide)
    · have h1' : (128 : Nat) ^ i ≤ 128 ^ 9 := Nat.pow_le_pow_right (by decide) (by omega)
      have h2 : 128 ^ i * c ≤ 128 ^ 9 * 1 := Nat.mul_le_mul h1' h1
      exact Nat.lt_of_le_of_lt h2 (by decide)
  have hsl : shl .u64 ((c : Nat) : Int) ((7 * i : Nat) : Int) = ((128 ^ i * c : Nat) : Int) := by
    unfold shl
    rw [Int.toNat_natCast, Nat.min_eq_left (by show 7 * i ≤ 64; omega), show ((2 : Int) ^ (7 * i)) = ((2 ^ (7 * i) : Nat) : Int) by simp, ← hp7, ← Int.natCast_mul, Nat.mul_comm c]
    exact wrap_u64_id (by omega) (by omega)
  rw [hsl]
  generalize val (l.take i) = v at *
  have := (bits_nat .u64 64 (Nat.le_refl _) (fun n h0 h1 => wrap_u64_id h0 (by simpa using h1)) v (128 ^ i * c) hv64 (by simpa using hpb)).2
  rw [this, Nat.or_comm, hp7, ← Nat.two_pow_add_eq_or_of_lt (by rw [← hp7]; exact hvl), Nat.add_comm]
theorem rfin (v p i : Nat) (hv : v < 18446744073709551616) (hp : p ≤ 4611686018427387904) (hi : i ≤ 10) :
    (if (Go.bits .and .u64 (v : Int) 1) = 1 then (some (wrap64 ((wrap64 (-(wrap64 ((v : Int) / 2)))) - 1), wrap64 ((wrap64 ((p : Int) + (i : Int))) + 1), (0 : Int))) else (some (wrap64 ((v : Int) / 2), wrap64 ((wrap64 ((p : Int) + (i : Int))) + 1), 0)))
      = some (unzig v, (p : Int) + ((i + 1 : Nat) : Int), 0) := by
  have w1 : wrap64 (wrap64 ((p : Int) + (i : Int)) + 1) = (p : Int) + ((i + 1 : Nat) : Int) := by
    rw [wrap64_id (n := (p : Int) + (i : Int)) (by omega) (by omega), wrap64_id (by omega) (by omega)]; omega
  rw [and64_one v hv, w1, show (v : Int) / 2 = ((v / 2 : Nat) : Int) by omega, wrap64_id (n := ((v / 2 : Nat) : Int)) (by omega) (by omega)]
  clear w1
  unfold unzig
  by_cases c : v % 2 = 0
  · rw [if_neg (by omega), if_pos c]
  · rw [if_pos (by omega), if_neg c, wrap64_id (n := -((v / 2 : Nat) : Int)) (by omega) (by omega), wrap64_id (by omega) (by omega)]
theorem getS_small (l : List Nat) (p : Int) (i : Nat) (hlt : i < l.length) (h9 : i < 10) (hf : fin (l.take i) = 0) (hsm : l[i] < 128) :
    getS l p = if (i = 9 ∧ 1 < l[i]) ∨ (0 < i ∧ l[i] = 0) then (0, 0, 700) else (unzig (val (l.take (i + 1))), p + ((i + 1 : Nat) : Int), 0) := by
  have hf10 : fin (l.take 10) = i + 1 := by
    have : l.take 10 = l.take i ++ l[i] :: ((l.drop (i + 1)).take (9 - i)) := by
      rw [show (10 : Nat) = i + (1 + (9 - i)) by omega, List.take_add, List.drop_eq_getElem_cons hlt, Nat.add_comm 1 (9 - i), List.take_succ_cons]
    rw [this, fin_app1 _ hsm _ _ hf, List.length_take, Nat.min_eq_left (by omega)]
  have hgd : l.getD i 0 = l[i] := by rw [List.getD_eq_getElem?_getD, List.getElem?_eq_getElem hlt]; rfl
  unfold getS
  rw [hf10, if_neg (by omega), Nat.add_sub_cancel, hgd]
  generalize l[i] = b at *
  by_cases c : (i = 9 ∧ 1 < b) ∨ (0 < i ∧ b = 0)
  · rw [if_pos c, if_pos]
    rcases c with ⟨a, d⟩ | ⟨a, d⟩
    · left; subst a; rw [hgd]; exact ⟨rfl, d⟩
    · right; exact ⟨by omega, d⟩
  · rw [if_neg c, if_neg]
    rintro (⟨a, d⟩ | ⟨a, d⟩)
    · have h : i = 9 := by omega
      subst h; rw [hgd] at d; exact c (Or.inl ⟨rfl, d⟩)
    · exact c (Or.inr ⟨by omega, d⟩)
theorem val_small (l : List Nat) (i : Nat) (hlt : i < l.length) (h9 : i < 10) (hsm : l[i] < 128) (h : i < 9 ∨ l[i] ≤ 1) :
    val (l.take (i + 1)) = val (l.take i) + 128 ^ i * l[i] ∧ val (l.take i) + 128 ^ i * l[i] < 18446744073709551616 := by
  have hvl := val_lt (l.take i)
  rw [List.length_take, Nat.min_eq_left (by omega)] at hvl
  constructor
  · rw [List.take_succ_eq_append_getElem hlt, val_app, List.length_take, Nat.min_eq_left (by omega)]; simp only [val, Nat.mul_zero, Nat.add_zero]; rw [Nat.mod_eq_of_lt hsm]
  · generalize l[i] = b at *
    rcases h with h | h
    · have h1 : (128 : Nat) ^ i ≤ 128 ^ 8 := Nat.pow_le_pow_right (by decide) (by omega)
      have h2 : 128 ^ i * b ≤ 128 ^ 8 * 127 := Nat.mul_le_mul h1 (by omega)
      have e8 : (128 : Nat) ^ 8 = 72057594037927936 := by decide
      omega
    · have h1 : (128 : Nat) ^ i ≤ 128 ^ 9 := Nat.pow_le_pow_right (by decide) (by omega)
      have h2 : 128 ^ i * b ≤ 128 ^ 9 * 1 := Nat.mul_le_mul h1 h
      have e9 : (128 : Nat) ^ 9 = 9223372036854775808 := by decide
      omega
theorem w_add2 (p i : Nat) (hp : p ≤ 4611686018427387904) (hi : i ≤ 10) : wrap64 ((p : Int) + (i : Int)) = ((p + i : Nat) : Int) ∧ wrap64 (7 * (i : Int)) = ((7 * i : Nat) : Int) ∧ IntKind.u64.wrap ((7 * i : Nat) : Int) = ((7 * i : Nat) : Int) ∧ wrap64 ((i : Int) + 1) = ((i + 1 : Nat) : Int) := by
  refine ⟨?_, ?_, wrap_u64_id (by omega) (by omega), ?_⟩
  · rw [wrap64_id (by omega) (by omega)]; omega
  · rw [wrap64_id (by omega) (by omega)]; omega
  · rw [wrap64_id (by omega) (by omega)]; omega
theorem rget_l0 (s : ByteArray) (p : Nat) (hp : p ≤ s.size) (hs : s.size ≤ 4611686018427387904) (l : List Nat) (hl : l = (L s).drop p) (d : Nat) :
    ∀ (i : Nat) (u : Int) (k : Nat), 10 - i = d → i ≤ 10 → i ≤ l.length → d + 1 < k → fin (l.take i) = 0 → (i < 10 → u = ((val (l.take i) : Nat) : Int)) → bourneref1_GetNum.l0 k s (p : Int) u (i : Int) = some (getS l (p : Int)) := by
  have hlen := L_len s
  have hll : l.length = s.size - p := by rw [hl, List.length_drop, hlen]
  have hbb : ∀ x ∈ l, x < 256 := fun x hx => L_lt s x (List.mem_of_mem_drop (hl ▸ hx))
  induction d with
  | zero =>
    intro i u k hd hi hil hk hf hu
    obtain ⟨k, rfl⟩ : ∃ m, k = m + 1 := ⟨k - 1, by omega⟩
    obtain rfl : i = 10 := by omega
    simp only [bourneref1_GetNum.l0]
    rw [if_neg (by decide)]
    unfold getS
    rw [if_pos hf, if_neg (by omega)]
  | succ d ih =>
    intro i u k hd hi hil hk hf hu
    obtain ⟨k, rfl⟩ : ∃ m, k = m + 2 := ⟨k - 2, by omega⟩
    have hi10 : i < 10 := by omega
    have hi9 : i ≤ 9 := by omega
    have hu := hu hi10
    subst hu
    have q1 : ((i : Nat) : Int) < 10 := by omega
    have q2 : 0 ≤ ((p + i : Nat) : Int) := by omega
    have q3 : 0 ≤ ((7 * i : Nat) : Int) := by omega
    have q4 : 10 - (i + 1) = d := by omega
    have q5 : d + 1 < k + 1 := by omega
    have q6 : p ≤ 4611686018427387904 := by omega
    simp only [bourneref1_GetNum.l0]
    rw [if_pos q1, (w_add2 p i q6 hi).1]
    by_cases hend : l.length ≤ i
    · have q7 : ((p + i : Nat) : Int) ≥ (s.size : Int) := by omega
      rw [if_pos q7]
      unfold getS
      have ht : l.take 10 = l.take i := by rw [List.take_of_length_le (by omega), List.take_of_length_le (by omega)]
      rw [ht, if_pos hf, if_pos (by omega)]
    · have hlt : i < l.length := by omega
      have q7 : ¬ ((p + i : Nat) : Int) ≥ (s.size : Int) := by omega
      have q8 : ((p + i : Nat) : Int) < (s.size : Int) := by omega
      have q9 : p + i < (L s).length := by omega
      have q10 : i + 1 ≤ l.length := by omega
      have hb : bt s ((p + i : Nat) : Int) = ((l[i] : Nat) : Int) := by
        rw [bt_L, Int.toNat_natCast]
        subst hl
        rw [List.getElem_drop, List.getD_eq_getElem?_getD, List.getElem?_eq_getElem q9]; rfl
      have hb2 : l[i] < 256 := hbb _ (List.getElem_mem hlt)
      have hm1 : ((l[i] % 128 : Nat) : Int) < 18446744073709551616 := by omega
      rw [if_neg q7, if_pos q2, if_pos q8, (w_add2 p i q6 hi).2.1, (w_add2 p i q6 hi).2.2.1, (w_add2 p i q6 hi).2.2.2, if_pos q3, hb, u8and _ hb2, wrap_u64_id (n := ((l[i] % 128 : Nat) : Int)) (by omega) hm1]
      clear hb q1 q2 q3 q7 q8 q9
      by_cases hsm : l[i] < 128
      · have hmod : l[i] % 128 = l[i] := Nat.mod_eq_of_lt hsm
        have hgs := getS_small l (p : Int) i hlt hi10 hf hsm
        have c1 : ((l[i] : Nat) : Int) < 128 := by omega
        rw [if_pos c1, hmod, hgs]
        have hok : (i < 9 ∨ l[i] ≤ 1) → bourneref1_GetNum.j2 (k + 1) (p : Int) (Go.bits .or .u64 ((val (l.take i) : Nat) : Int) (shl .u64 ((l[i] : Nat) : Int) ((7 * i : Nat) : Int))) (i : Int) false = some (unzig (val (l.take (i + 1))), (p : Int) + ((i + 1 : Nat) : Int), 0) := by
          intro h9
          obtain ⟨v1, v2⟩ := val_small l i hlt hi10 hsm h9
          simp only [bourneref1_GetNum.j2]
          rw [if_neg (by decide), ror_sh l i _ hil hi9 hsm h9, v1]
          exact rfin _ p i v2 q6 hi
        have hbad : ∀ u : Int, bourneref1_GetNum.j2 (k + 1) (p : Int) u (i : Int) true = some (0, 0, 700) := by
          intro u; simp only [bourneref1_GetNum.j2, if_true]
        generalize l[i] = b at *
        by_cases z : b = 0
        · have z' : ((b : Nat) : Int) = 0 := by omega
          rw [if_pos z']
          by_cases zi : 0 < i
          · have zi' : ((i : Nat) : Int) > 0 := by omega
            rw [if_pos zi', hbad, if_pos (Or.inr ⟨zi, z⟩)]
          · have zi' : ¬ ((i : Nat) : Int) > 0 := by omega
            have z9 : ¬ ((i : Nat) : Int) = 9 := by omega
            rw [if_neg zi', if_neg z9, hok (by omega), if_neg (by omega)]
        · have z' : ¬ ((b : Nat) : Int) = 0 := by omega
          rw [if_neg z']
          by_cases h9 : i = 9
          · have h9' : ((i : Nat) : Int) = 9 := by omega
            rw [if_pos h9']
            by_cases o : 1 < b
            · have o' : ((b : Nat) : Int) > 1 := by omega
              rw [decide_eq_true o', hbad, if_pos (Or.inl ⟨h9, o⟩)]
            · have o' : ¬ ((b : Nat) : Int) > 1 := by omega
              rw [decide_eq_false o', hok (by omega), if_neg (by omega)]
          · have h9' : ¬ ((i : Nat) : Int) = 9 := by omega
            rw [if_neg h9', hok (by omega), if_neg (by omega)]
      · have c1 : ¬ ((l[i] : Nat) : Int) < 128 := by omega
        rw [if_neg c1]
        refine ih (i + 1) _ (k + 1) q4 hi10 q10 q5 (by rw [List.take_succ_eq_append_getElem hlt]; exact fin_app0 _ hsm _ hf) ?_
        intro h10
        have c2 : l[i] % 128 < 128 := Nat.mod_lt _ (by decide)
        have c3 : i < 9 ∨ l[i] % 128 ≤ 1 := Or.inl (by omega)
        rw [ror_sh l i _ hil hi9 c2 c3, List.take_succ_eq_append_getElem hlt, val_app, List.length_take, Nat.min_eq_left hil]
        simp [val]
theorem rget_ev (s : ByteArray) (p : Nat) (hp : p ≤ s.size) (hs : s.size ≤ 4611686018427387904) : ∀ k, 20 ≤ k → bourneref1_GetNum.f k s (p : Int) = some (getS ((L s).drop p) (p : Int)) := by
  intro k hk
  obtain ⟨k, rfl⟩ : ∃ m, k = m + 1 := ⟨k - 1, by omega⟩
  unfold bourneref1_GetNum.f
  rw [if_neg (by omega), decide_eq_false (by omega)]
  simp only [bourneref1_GetNum.j0]
  rw [if_neg (by decide)]
  exact rget_l0 s p hp hs _ rfl 10 0 0 k (by omega) (by omega) (by omega) (by omega) (by simp [fin]) (by intro _; simp [val])
theorem rget_form (s : ByteArray) (p : Int) (h : p < 0 ∨ (s.size : Int) < p) : ∀ k, 1 ≤ k → bourneref1_GetNum.f k s p = some (0, 0, 700) := by
  intro k hk
  obtain ⟨k, rfl⟩ : ∃ m, k = m + 1 := ⟨k - 1, by omega⟩
  unfold bourneref1_GetNum.f
  by_cases c : p < 0
  · rw [if_pos c]; simp [bourneref1_GetNum.j0]
  · rw [if_neg c, decide_eq_true (by omega)]; simp [bourneref1_GetNum.j0]

/-! ### unlike9 -/
theorem zig_inj {x y : Int} (h : zig x = zig y) : x = y := by rw [← unzig_zig x, h, unzig_zig]
theorem enc1 {x y : Int} (hx : rng x) (hy : rng y) {r t : List Nat} (h : enc (zig x) ++ r = enc (zig y) ++ t) : x = y ∧ r = t := by
  have := enc_inj (zig_lt hx.1 hx.2) (zig_lt hy.1 hy.2) r t h
  exact ⟨zig_inj this.1, this.2⟩
theorem encs_inj : ∀ (xs ys : List Int), (∀ x ∈ xs, rng x) → (∀ y ∈ ys, rng y) → xs.length = ys.length → encs xs = encs ys → xs = ys
  | [], [], _, _, _, _ => rfl
  | [], _ :: _, _, _, h, _ => by simp at h
  | _ :: _, [], _, _, h, _ => by simp at h
  | x :: xs, y :: ys, hx, hy, hl, h => by
    simp only [encs] at h
    obtain ⟨e, h2⟩ := enc1 (hx x (by simp)) (hy y (by simp)) h
    subst e
    rw [encs_inj xs ys (fun z hz => hx z (by simp [hz])) (fun z hz => hy z (by simp [hz])) (by simpa using hl) h2]
theorem encs_lt : ∀ (xs : List Int), (∀ x ∈ xs, rng x) → ∀ b ∈ encs xs, b < 256
  | [], _, b, hb => by simp [encs] at hb
  | x :: xs, hx, b, hb => by
    simp only [encs, List.mem_append] at hb
    have h1 := hx x (by simp)
    rcases hb with hb | hb
    · exact enc_lt 10 _ (Nat.lt_of_lt_of_le (zig_lt h1.1 h1.2) (by decide)) b hb
    · exact encs_lt xs (fun z hz => hx z (by simp [hz])) b hb
def olist (a0 a1 a2 a3 a4 : Int) : List Int := if a0 = 0 then [a0, a1, a2, a3, a4] else if a0 = 1 then [a0, a1, a3] else [a0]
theorem oenc_list (a0 a1 a2 a3 a4 : Int) : oenc a0 a1 a2 a3 a4 = encs (olist a0 a1 a2 a3 a4) := by
  unfold oenc olist
  by_cases c : a0 = 0
  · rw [if_pos c, if_pos c]
  · rw [if_neg c, if_neg c]
    by_cases c1 : a0 = 1
    · rw [if_pos c1, if_pos c1]
    · rw [if_neg c1, if_neg c1]
theorem olist_rng {a0 a1 a2 a3 a4 : Int} (h : oMay a0 a1 a2 a3 a4 = true) : ∀ x ∈ olist a0 a1 a2 a3 a4, rng x := by
  have hr := oMay_rng h
  intro x hx
  have : x ∈ [a0, a1, a2, a3, a4] := by
    unfold olist at hx
    by_cases c : a0 = 0
    · rw [if_pos c] at hx; exact hx
    · rw [if_neg c] at hx
      by_cases c1 : a0 = 1
      · rw [if_pos c1] at hx; simp only [List.mem_cons, List.not_mem_nil, or_false] at hx ⊢; omega
      · rw [if_neg c1] at hx; simp only [List.mem_cons, List.not_mem_nil, or_false] at hx ⊢; omega
  simp only [List.mem_cons, List.not_mem_nil, or_false] at this
  unfold rng; omega
theorem L_oenc {a0 a1 a2 a3 a4 : Int} (h : oMay a0 a1 a2 a3 a4 = true) : L (S (oenc a0 a1 a2 a3 a4)) = oenc a0 a1 a2 a3 a4 := by
  apply L_S
  rw [oenc_list]
  exact encs_lt _ (olist_rng h)
theorem olist_head (a0 a1 a2 a3 a4 : Int) : ∃ r, olist a0 a1 a2 a3 a4 = a0 :: r := by
  unfold olist
  by_cases c : a0 = 0
  · rw [if_pos c]; exact ⟨_, rfl⟩
  · rw [if_neg c]
    by_cases c1 : a0 = 1
    · rw [if_pos c1]; exact ⟨_, rfl⟩
    · rw [if_neg c1]; exact ⟨_, rfl⟩
theorem olist_len (a0 a1 a2 a3 a4 b1 b2 b3 b4 : Int) : (olist a0 a1 a2 a3 a4).length = (olist a0 b1 b2 b3 b4).length := by
  unfold olist
  by_cases c : a0 = 0
  · rw [if_pos c, if_pos c]; rfl
  · rw [if_neg c, if_neg c]
    by_cases c1 : a0 = 1
    · rw [if_pos c1, if_pos c1]; rfl
    · rw [if_neg c1, if_neg c1]
theorem oenc_inj {a0 a1 a2 a3 a4 b0 b1 b2 b3 b4 : Int} (ha : oMay a0 a1 a2 a3 a4 = true) (hb : oMay b0 b1 b2 b3 b4 = true) (h : oenc a0 a1 a2 a3 a4 = oenc b0 b1 b2 b3 b4) : a0 = b0 ∧ a1 = b1 ∧ a2 = b2 ∧ a3 = b3 ∧ a4 = b4 := by
  have ra := olist_rng ha
  have rb := olist_rng hb
  rw [oenc_list, oenc_list] at h
  have e0 : a0 = b0 := by
    obtain ⟨r, hr⟩ := olist_head a0 a1 a2 a3 a4
    obtain ⟨t, ht⟩ := olist_head b0 b1 b2 b3 b4
    rw [hr, ht] at h
    simp only [encs] at h
    exact (enc1 (ra a0 (by rw [hr]; simp)) (rb b0 (by rw [ht]; simp)) h).1
  subst e0
  have hl := encs_inj _ _ ra rb (olist_len a0 a1 a2 a3 a4 b1 b2 b3 b4) h
  have ia := oMay_iff.1 ha
  have ib := oMay_iff.1 hb
  unfold olist at hl
  by_cases c : a0 = 0
  · rw [if_pos c, if_pos c] at hl
    simp only [List.cons.injEq, and_true, true_and] at hl
    omega
  · rw [if_neg c, if_neg c] at hl
    by_cases c1 : a0 = 1
    · rw [if_pos c1, if_pos c1] at hl
      simp only [List.cons.injEq, and_true, true_and] at hl
      omega
    · omega

/-! ### rwire9 -/
theorem rwithin9 (t : Int) : bourneref1_within.f t 1099511627776 = some (decide (-1099511627776 ≤ t ∧ t ≤ 1099511627776)) := by
  unfold bourneref1_within.f
  rw [wrap64_id (n := -1099511627776) (by omega) (by omega)]
  by_cases c : t ≥ -1099511627776
  · rw [if_pos c]; exact congrArg some (decide_eq_decide.2 (by omega))
  · rw [if_neg c, decide_eq_false (by omega)]
theorem ropMay_eq (k : Nat) (a0 a1 a2 a3 a4 : Int) : bourneref1_OpMay.f (k + 1) a0 a1 a2 a3 a4 = some (oMay a0 a1 a2 a3 a4) := by
  have key : ∀ b : Bool, (b = true ↔ (a0 = 0 ∧ 0 ≤ a1 ∧ a1 < 8 ∧ 0 ≤ a2 ∧ a2 ≤ 1048575 ∧ -1099511627776 ≤ a3 ∧ a3 ≤ 1099511627776 ∧ -1099511627776 ≤ a4 ∧ a4 ≤ 1099511627776) ∨ (a0 = 1 ∧ 0 ≤ a1 ∧ a1 < 8 ∧ -4398046511104 < a3 ∧ a3 ≤ 4398046511104 ∧ a2 = 0 ∧ a4 = 0) ∨ (a0 = 2 ∧ a1 = 0 ∧ a2 = 0 ∧ a3 = 0 ∧ a4 = 0)) → some b = some (oMay a0 a1 a2 a3 a4) :=
    fun b hb => congrArg some (Bool.eq_iff_iff.2 (hb.trans oMay_iff.symm))
  have fin : ∀ x3 : Bool, (x3 = true ↔ (0 ≤ a1 ∧ a1 < 8)) → bourneref1_OpMay.j0 (k + 1) x3 a0 a1 a2 a3 a4 = some (oMay a0 a1 a2 a3 a4) := by
    intro x3 h3
    simp only [bourneref1_OpMay.j0]
    by_cases c0 : a0 = 0
    · rw [if_pos c0]
      by_cases c3 : x3 = true
      · have h4 := h3.1 c3
        rw [if_pos c3]
        by_cases c4 : a2 ≥ 0
        · rw [if_pos c4]
          by_cases c5 : a2 ≤ 1048575
          · rw [if_pos c5, rwithin9, Option.bind_some]
            by_cases c6 : -1099511627776 ≤ a3 ∧ a3 ≤ 1099511627776
            · rw [if_pos (decide_eq_true c6), rwithin9, Option.bind_some]; exact key _ (by rw [decide_eq_true_eq]; omega)
            · rw [decide_eq_false c6, if_neg (by decide)]; exact key _ ⟨fun h => (by cases h), fun h => by omega⟩
          · rw [if_neg c5]; exact key _ ⟨fun h => (by cases h), fun h => by omega⟩
        · rw [if_neg c4]; exact key _ ⟨fun h => (by cases h), fun h => by omega⟩
      · rw [if_neg c3]; exact key _ ⟨fun h => (by cases h), fun h => absurd (h3.2 (by omega)) c3⟩
    · rw [if_neg c0]
      by_cases c1 : a0 = 1
      · rw [if_pos c1]
        by_cases c3 : x3 = true
        · have h4 := h3.1 c3
          rw [if_pos c3]
          by_cases c4 : a2 = 0
          · rw [if_pos c4]
            by_cases c5 : a3 > -4398046511104
            · rw [if_pos c5]
              by_cases c6 : a3 ≤ 4398046511104
              · rw [if_pos c6]; exact key _ (by rw [beq_iff_eq]; omega)
              · rw [if_neg c6]; exact key _ ⟨fun h => (by cases h), fun h => by omega⟩
            · rw [if_neg c5]; exact key _ ⟨fun h => (by cases h), fun h => by omega⟩
          · rw [if_neg c4]; exact key _ ⟨fun h => (by cases h), fun h => by omega⟩
        · rw [if_neg c3]; exact key _ ⟨fun h => (by cases h), fun h => absurd (h3.2 (by omega)) c3⟩
      · rw [if_neg c1]
        by_cases c2 : a0 = 2
        · rw [if_pos c2]; exact key _ (by simp only [Bool.and_eq_true, beq_iff_eq]; omega)
        · rw [if_neg c2]; exact key _ ⟨fun h => (by cases h), fun h => by omega⟩
  unfold bourneref1_OpMay.f
  by_cases c : a1 ≥ 0
  · rw [if_pos c]; exact fin _ (by rw [decide_eq_true_eq]; omega)
  · rw [if_neg c]; exact fin _ ⟨fun h => (by cases h), fun h => by omega⟩
theorem rput_no {a0 a1 a2 a3 a4 : Int} (h : oMay a0 a1 a2 a3 a4 = false) (k : Nat) : bourneref1_PutOp.f (k + 1) a0 a1 a2 a3 a4 = some ((⟨#[]⟩ : ByteArray), 900) := by
  unfold bourneref1_PutOp.f
  rw [ropMay_eq, h]; rfl
theorem rput_ok {a0 a1 a2 a3 a4 : Int} (h : oMay a0 a1 a2 a3 a4 = true) (k : Nat) (hk : 20 ≤ k) : bourneref1_PutOp.f (k + 1) a0 a1 a2 a3 a4 = some (S (oenc a0 a1 a2 a3 a4), 0) := by
  have hr := oMay_rng h
  have P : ∀ x : Int, -9223372036854775808 ≤ x → x ≤ 9223372036854775807 → ∃ b, bourneref1_PutNum.f (k + 1) x = some b ∧ L b = enc (zig x) ∧ b.size ≤ 10 := fun x h1 h2 => by
    have hp := L_put h1 h2
    exact ⟨_, rput_ev h1 h2 (k + 1) (by omega), hp, by rw [← L_len, hp]; exact enc_len10 (zig_lt h1 h2)⟩
  obtain ⟨b0, p0, l0, z0⟩ := P a0 (by omega) (by omega)
  obtain ⟨b1, p1, l1, z1⟩ := P a1 (by omega) (by omega)
  obtain ⟨b2, p2, l2, z2⟩ := P a2 (by omega) (by omega)
  obtain ⟨b3, p3, l3, z3⟩ := P a3 (by omega) (by omega)
  obtain ⟨b4, p4, l4, z4⟩ := P a4 (by omega) (by omega)
  have fin : ∀ b : ByteArray, L b = oenc a0 a1 a2 a3 a4 → some (b, (0 : Int)) = some (S (oenc a0 a1 a2 a3 a4), 0) := fun b hb => by
    rw [← hb, S_L9]
  unfold bourneref1_PutOp.f
  rw [ropMay_eq, h, Option.bind_some, if_pos rfl, p0, Option.bind_some]
  unfold oenc at fin
  unfold oenc
  by_cases c0 : a0 = 0
  · rw [if_pos c0, p1, Option.bind_some, if_pos (by omega), p2, Option.bind_some, if_pos (by rw [ByteArray.size_append]; omega), p3, Option.bind_some, if_pos (by rw [ByteArray.size_append, ByteArray.size_append]; omega), p4, Option.bind_some,
      if_pos (by rw [ByteArray.size_append, ByteArray.size_append, ByteArray.size_append]; omega)]
    exact fin _ (by rw [if_pos c0, L_append, L_append, L_append, L_append, l0, l1, l2, l3, l4]; simp only [encs, List.append_assoc, List.append_nil])
  · rw [if_neg c0]
    by_cases c1 : a0 = 1
    · rw [if_pos c1, p1, Option.bind_some, if_pos (by omega), p3, Option.bind_some, if_pos (by rw [ByteArray.size_append]; omega)]
      exact fin _ (by rw [if_neg c0, if_pos c1, L_append, L_append, l0, l1, l3]; simp only [encs, List.append_assoc, List.append_nil])
    · rw [if_neg c1]
      exact fin _ (by rw [if_neg c0, if_neg c1, l0]; simp only [encs, List.append_nil])
theorem rnum_ev (s : ByteArray) (hs : s.size ≤ 4611686018427387904) (p : Int) (b : Bool) (h0 : 0 ≤ p) (h1 : p ≤ s.size) (k : Nat) (hk : 20 ≤ k) :
    bourneref1_Reader_Num.f k s p b = some ((numM (L s) p b).1, s, (numM (L s) p b).2.1, (numM (L s) p b).2.2) := by
  unfold bourneref1_Reader_Num.f numM
  have h := rget_ev s p.toNat (by omega) hs k hk
  rw [Int.toNat_of_nonneg h0] at h
  rw [h, Option.bind_some]
  cases b with
  | true => rfl
  | false =>
    simp only [Bool.false_eq_true, reduceIte]
    by_cases c : (getS ((L s).drop p.toNat) p).2.2 = 0
    · simp only [if_pos c]
    · simp only [if_neg c]
theorem rraw_ev (s : ByteArray) (hs : s.size ≤ 4611686018427387904) (k : Nat) (hk : 20 ≤ k) : bourneref1_GetOp.raw k s = some ((rawM (L s)).1, (rawM (L s)).2.1, (rawM (L s)).2.2.1, (rawM (L s)).2.2.2.1, (rawM (L s)).2.2.2.2.1, s, (rawM (L s)).2.2.2.2.2.1, (rawM (L s)).2.2.2.2.2.2) := by
  have hb := L_lt s
  have hlen := L_len s
  have N : ∀ (p : Int) (b : Bool), 0 ≤ p → p ≤ s.size → bourneref1_Reader_Num.f k s p b = some ((numM (L s) p b).1, s, (numM (L s) p b).2.1, (numM (L s) p b).2.2) := fun p b a1 a2 => rnum_ev s hs p b a1 a2 k hk
  have R : ∀ (p : Int) (b : Bool), 0 ≤ p → p ≤ s.size → 0 ≤ (numM (L s) p b).2.1 ∧ (numM (L s) p b).2.1 ≤ s.size := fun p b a1 a2 => by
    have := num_rng (L s) hb p b a1 (by omega); omega
  unfold bourneref1_GetOp.raw rawM
  have r0 := R 0 false (by omega) (by omega)
  rw [N 0 false (by omega) (by omega), Option.bind_some]
  dsimp only
  generalize numM (L s) 0 false = t0 at *
  by_cases c : t0.1 = 0
  · have r1 := R t0.2.1 t0.2.2 r0.1 r0.2
    have r2 := R _ (numM (L s) t0.2.1 t0.2.2).2.2 r1.1 r1.2
    have r3 := R _ (numM (L s) (numM (L s) t0.2.1 t0.2.2).2.1 (numM (L s) t0.2.1 t0.2.2).2.2).2.2 r2.1 r2.2
    rw [if_pos c, if_pos c, N _ _ r0.1 r0.2, Option.bind_some]
    dsimp only
    rw [N _ _ r1.1 r1.2, Option.bind_some]
    dsimp only
    rw [N _ _ r2.1 r2.2, Option.bind_some]
    dsimp only
    rw [N _ _ r3.1 r3.2, Option.bind_some]
  · rw [if_neg c, if_neg c]
    by_cases c1 : t0.1 = 1
    · have r1 := R t0.2.1 t0.2.2 r0.1 r0.2
      rw [if_pos c1, if_pos c1, N _ _ r0.1 r0.2, Option.bind_some]
      dsimp only
      rw [N _ _ r1.1 r1.2, Option.bind_some]
    · rw [if_neg c1, if_neg c1]
theorem rget_all (s : ByteArray) (hs : s.size ≤ 4611686018427387904) (k : Nat) (hk : 20 ≤ k) : bourneref1_GetOp.f (k + 1) s = some (getM (L s)) := by
  have hlen := L_len s
  unfold bourneref1_GetOp.f getM
  rw [rraw_ev s hs (k + 1) (by omega), Option.bind_some]
  dsimp only
  generalize rawM (L s) = q
  obtain ⟨n0, n1, n2, n3, n4, p, b⟩ := q
  dsimp only
  cases b with
  | true => simp only [reduceIte, Bool.true_eq_false, false_and]
  | false =>
    rw [if_neg (by decide)]
    by_cases c : p = (s.size : Int)
    · rw [if_pos (by simp [c]), ropMay_eq, Option.bind_some]
      by_cases m : oMay n0 n1 n2 n3 n4 = true
      · rw [if_pos m, if_pos ⟨rfl, by omega, m⟩]
      · rw [if_neg m, if_neg (fun h => m h.2.2)]
    · rw [if_neg (by simp [c]), if_neg (fun h => c (by omega))]

theorem wires_ev (a0 a1 a2 a3 a4 : Int) (s : ByteArray) (hs : s.size ≤ 140737488351232) (k : Nat) (hk : 20 ≤ k) : bournelaw9_Wires.f (k + 1) a0 a1 a2 a3 a4 s = some true := by
  unfold bournelaw9_Wires.f
  have hp : ∃ b e, wire_Put.f (k + 1) a0 a1 a2 a3 a4 = some (b, e) ∧ bourneref1_PutOp.f (k + 1) a0 a1 a2 a3 a4 = some (b, e) := by
    cases h : oMay a0 a1 a2 a3 a4 with
    | false => exact ⟨_, _, put_no h _, rput_no h k⟩
    | true => exact ⟨_, _, put_ok h _ (by omega), rput_ok h k hk⟩
  obtain ⟨b, e, p1, p2⟩ := hp
  rw [p1, Option.bind_some, p2, Option.bind_some, get_all s (by omega) (k + 1) (by omega), Option.bind_some, rget_all s (by omega) k hk, Option.bind_some, if_pos rfl, num9, Option.bind_some, if_pos rfl]
  generalize getM (L s) = q
  obtain ⟨n0, n1, n2, n3, n4, g⟩ := q
  dsimp only
  simp only [beq_self_eq_true, Bool.and_self, if_true]
  rw [num9, Option.bind_some, if_pos rfl, show wire_May.f a0 a1 a2 a3 a4 = some (oMay a0 a1 a2 a3 a4) from rfl, Option.bind_some, ropMay_eq, Option.bind_some]
  rw [if_pos (by simp), awake_ev (k + 1) (by omega), Option.bind_some]
theorem wires_walk (a0 a1 a2 a3 a4 : Int) (s : ByteArray) (w : World) (_ : (Lit.int .i64 a0).wf = true) (_ : (Lit.int .i64 a1).wf = true) (_ : (Lit.int .i64 a2).wf = true) (_ : (Lit.int .i64 a3).wf = true) (_ : (Lit.int .i64 a4).wf = true) (hs : s.size ≤ 140737488351232) :
    Calls Try.prog 3 #[.agg #[.int .i64 a0, .int .i64 a1, .int .i64 a2, .int .i64 a3, .int .i64 a4], .string s] w fun e w' => e = .returned (.bool true) ∧ Below w.heap.size w w' :=
  bournelaw9_Wires.calls 21 a0 a1 a2 a3 a4 s true w (wires_ev a0 a1 a2 a3 a4 s hs 20 (by omega))

end Go.Proofs.Ytmefhlaeeaockaa.Pure
