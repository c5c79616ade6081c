/- The scanner on lists, and that the code's scanner is it. No condition. -/
import Derived.Test.YtmccgkbbgicglaaQScanRefx10
import Derived.Test.YtmccgkbbgicglaaQScanRefx11
import Derived.Test.YtmccgkbbgicglaaQScanRefx12
import Derived.Test.YtmccgkbbgicglaaQScanRefx13a
namespace Go.Proofs.Ytmccgkbbgicglaa.ScanPureR
open Go.RowKit Go.Proofs.Ytmccgkbbgicglaa.QScanRef Go.Proofs.YtmccgkbbgicglaaW.PrintWords Go.Proofs.YtmccgkbbgicglaaW.PrintLast Go.Proofs.YtmccgkbbgicglaaW.PrintMore
set_option linter.unusedVariables false
set_option linter.unusedSimpArgs false

/-! ### base -/
theorem wf_i64 {a : Int} (h : (Lit.int .i64 a).wf = true) : -9223372036854775808 ≤ a ∧ a ≤ 9223372036854775807 := by
  simpa [Lit.wf, IntKind.min, IntKind.max, IntKind.signed, IntKind.bits] using h
theorem wrap64_id {n : Int} (h1 : -9223372036854775808 ≤ n) (h2 : n ≤ 9223372036854775807) : wrap64 n = n := by
  unfold wrap64; omega
theorem toNat_ofInt64 (a : Int) : ((BitVec.ofInt 64 a).toNat : Int) = a % 18446744073709551616 := by
  rw [BitVec.toNat_ofInt]
  have h : (0 : Int) ≤ a % ((2 ^ 64 : Nat) : Int) := Int.emod_nonneg _ (by decide)
  rw [Int.toNat_of_nonneg h]; rfl
theorem wrap_i64_nat (n : Nat) (h : n < 9223372036854775808) : IntKind.i64.wrap (n : Int) = (n : Int) := by
  rw [IntKind.wrap_i64]; omega
theorem and_mask (a : Int) (j : Nat) (hj : j ≤ 63) : Go.bits .and .i64 a (2 ^ j - 1) = a % 2 ^ j := by
  have hp : 2 ^ j ≤ 2 ^ 63 := Nat.pow_le_pow_right (by decide) hj
  have hpos : 0 < 2 ^ j := Nat.two_pow_pos j
  have hc : ((2 : Int) ^ j - 1) = ((2 ^ j - 1 : Nat) : Int) := by
    rw [Int.natCast_sub hpos]; simp
  have hd : (2 : Int) ^ j ∣ 18446744073709551616 := ⟨2 ^ (64 - j), by rw [← Int.pow_add]; rw [show j + (64 - j) = 64 by omega]; rfl⟩
  show IntKind.i64.wrap (((BitVec.ofInt 64 a &&& BitVec.ofInt 64 (2 ^ j - 1)).toNat : Nat) : Int) = _
  rw [BitVec.toNat_and, hc, BitVec.ofInt_natCast, BitVec.toNat_ofNat, Nat.mod_eq_of_lt (Nat.lt_of_lt_of_le (Nat.sub_lt hpos (by decide)) (Nat.le_trans hp (by decide))), Nat.and_two_pow_sub_one_eq_mod]
  rw [wrap_i64_nat _ (Nat.lt_of_lt_of_le (Nat.mod_lt _ hpos) hp), Int.natCast_emod, toNat_ofInt64, Int.natCast_pow]
  exact Int.emod_emod_of_dvd a hd
theorem and_m (a : Int) (j : Nat) (m p : Int) (hj : j ≤ 63) (hp : (2 : Int) ^ j = p) (hm : m = p - 1) : Go.bits .and .i64 a m = a % p := by
  subst hm; rw [← hp]; exact and_mask a j hj

/-! ### bytes -/
def L (s : ByteArray) : List Nat := s.data.toList.map UInt8.toNat
theorem L_len (s : ByteArray) : (L s).length = s.size := by unfold L; simp
theorem L_append (a b : ByteArray) : L (a ++ b) = L a ++ L b := by unfold L; simp [ByteArray.data_append]
theorem L_extract (s : ByteArray) (i j : Nat) : L (s.extract i j) = ((L s).take j).drop i := by
  unfold L; rw [ByteArray.data_extract, Array.toList_extract, List.extract_eq_take_drop]
  rw [List.map_take, List.map_drop, List.drop_take]
theorem L_lt (s : ByteArray) : ∀ x ∈ L s, x < 256 := by
  intro x hx
  unfold L at hx
  obtain ⟨b, _, rfl⟩ := List.mem_map.1 hx
  exact b.toNat_lt
theorem L_inj {s t : ByteArray} (h : L s = L t) : s = t := by
  unfold L at h
  have hi : Function.Injective UInt8.toNat := fun a b h => UInt8.toNat_inj.1 h
  have := (List.map_inj_right (fun a b h => hi h)).1 h
  cases s; cases t
  congr 1
  exact Array.toList_inj.1 this
theorem bt_L (s : ByteArray) (i : Int) : bt s i = (((L s).getD i.toNat 0 : Nat) : Int) := by
  unfold bt L
  by_cases h : i.toNat < s.size
  · rw [dif_pos h, List.getD_eq_getElem?_getD, List.getElem?_map, List.getElem?_eq_getElem (by simpa using h)]
    simp; rfl
  · rw [dif_neg h, List.getD_eq_getElem?_getD, List.getElem?_eq_none (by simpa using h)]
    simp
theorem L_mk (l : List UInt8) : L ⟨l.toArray⟩ = l.map UInt8.toNat := by unfold L; simp
theorem L_str (xs : List Nat) (h : ∀ x ∈ xs, x < 256) : L (strOfNums (xs.map fun n : Nat => (n : Int))) = xs := by
  unfold strOfNums L
  simp only [List.map_map]
  conv => rhs; rw [← List.map_id xs]
  apply List.map_congr_left
  intro x hx
  have := h x hx
  simp [Function.comp]
  omega
theorem eq_of_toList {s t : ByteArray} (h : s.toList = t.toList) : s = t := by
  rw [ByteArray.toList_eq, ByteArray.toList_eq] at h
  cases s; cases t
  congr 1
  exact Array.toList_inj.1 h
theorem toList_beq (s t : ByteArray) : (s.toList == t.toList) = decide (L s = L t) := by
  by_cases h : s = t
  · subst h; simp
  · have h1 : ¬ s.toList = t.toList := fun e => h (eq_of_toList e)
    have h2 : ¬ L s = L t := fun e => h (L_inj e)
    simp [h1, h2]
theorem L_toList (s : ByteArray) : s.toList.map UInt8.toNat = L s := by rw [ByteArray.toList_eq]; rfl
theorem toList_lit (s : ByteArray) (l : List UInt8) : (s.toList = l) ↔ L s = l.map UInt8.toNat := by
  constructor
  · rintro rfl; rw [L_toList]
  · intro h
    rw [← L_toList] at h
    exact (List.map_inj_right (fun a b h => UInt8.toNat_inj.1 h)).1 h
attribute [local irreducible] L bt

/-! ### vmath -/
def enc (u : Nat) : List Nat := if h : u < 128 then [u] else (u % 128 + 128) :: enc (u / 128)
termination_by u
def zig (x : Int) : Nat := if 0 ≤ x then (2 * x).toNat else (-2 * x - 1).toNat
def unzig (u : Nat) : Int := if u % 2 = 0 then ((u / 2 : Nat) : Int) else -((u / 2 : Nat) : Int) - 1
def fin : List Nat → Nat
  | [] => 0
  | b :: r => if b < 128 then 1 else if fin r = 0 then 0 else fin r + 1
def val : List Nat → Nat
  | [] => 0
  | b :: r => b % 128 + 128 * val r
def getS (l : List Nat) (p : Int) : Int × Int × Int :=
  if fin (l.take 10) = 0 then (if l.length < 10 then (0, 0, 701) else (0, 0, 700))
  else if (fin (l.take 10) = 10 ∧ 1 < l.getD 9 0) ∨ (1 < fin (l.take 10) ∧ l.getD (fin (l.take 10) - 1) 0 = 0) then (0, 0, 700)
  else (unzig (val (l.take (fin (l.take 10)))), p + fin (l.take 10), 0)
theorem enc_small {u : Nat} (h : u < 128) : enc u = [u] := by rw [enc]; rw [dif_pos h]
theorem enc_big {u : Nat} (h : ¬ u < 128) : enc u = (u % 128 + 128) :: enc (u / 128) := by rw [enc]; rw [dif_neg h]
theorem enc_pos (u : Nat) : 1 ≤ (enc u).length := by
  by_cases h : u < 128
  · rw [enc_small h]; simp
  · rw [enc_big h]; simp
theorem enc_ne (u : Nat) : enc u ≠ [] := by
  have := enc_pos u
  intro h; rw [h] at this; simp at this
theorem enc_lt (n : Nat) : ∀ u, u < 128 ^ n → ∀ x ∈ enc u, x < 256 := by
  induction n with
  | zero => intro u hu x hx; rw [enc_small (by omega)] at hx; simp at hx; omega
  | succ n ih =>
    intro u hu x hx
    by_cases h : u < 128
    · rw [enc_small h] at hx; simp at hx; omega
    · rw [enc_big h] at hx
      rcases List.mem_cons.1 hx with rfl | hx
      · omega
      · exact ih (u / 128) (by rw [Nat.pow_succ] at hu; omega) x hx
theorem enc_len (n : Nat) : ∀ u, u < 128 ^ (n + 1) → (n = 0 ∨ 128 ^ n ≤ u) → (enc u).length = n + 1 := by
  induction n with
  | zero => intro u hu _; rw [enc_small (by simpa using hu)]; rfl
  | succ n ih =>
    intro u hu hl
    have hl : 128 ^ (n + 1) ≤ u := by omega
    have h1 : 1 ≤ 128 ^ n := Nat.pow_pos (by decide)
    rw [Nat.pow_succ] at hl hu
    rw [enc_big (by omega)]
    simp only [List.length_cons]
    rw [ih (u / 128) (by omega) (by omega)]
theorem enc_le (n : Nat) : ∀ u, u < 128 ^ (n + 1) → (enc u).length ≤ n + 1 := by
  induction n with
  | zero => intro u hu; rw [enc_small (by simpa using hu)]; simp
  | succ n ih =>
    intro u hu
    by_cases h : u < 128
    · rw [enc_small h]; simp
    · rw [enc_big h]
      rw [Nat.pow_succ] at hu
      have := ih (u / 128) (by omega)
      simp only [List.length_cons]; omega
theorem enc_len10 {u : Nat} (h : u < 18446744073709551616) : (enc u).length ≤ 10 := enc_le 9 u (Nat.lt_of_lt_of_le h (by decide))
theorem fin_enc (r : List Nat) (n : Nat) : ∀ u, u < 128 ^ n → fin (enc u ++ r) = (enc u).length := by
  induction n with
  | zero => intro u hu; rw [enc_small (by omega)]; simp [fin]; omega
  | succ n ih =>
    intro u hu
    by_cases h : u < 128
    · rw [enc_small h]; simp [fin]; omega
    · rw [enc_big h]
      rw [Nat.pow_succ] at hu
      have e := ih (u / 128) (by omega)
      have hp := enc_pos (u / 128)
      simp only [List.cons_append, fin, e, List.length_cons]
      rw [if_neg (by omega), if_neg (by omega)]
theorem fin_cut (n : Nat) : ∀ u, u < 128 ^ n → ∀ m, m < (enc u).length → fin ((enc u).take m) = 0 := by
  induction n with
  | zero => intro u hu m hm; rw [enc_small (by omega)] at *; simp at hm; subst hm; rfl
  | succ n ih =>
    intro u hu m hm
    by_cases h : u < 128
    · rw [enc_small h] at *; simp at hm; subst hm; rfl
    · rw [enc_big h] at *
      rw [Nat.pow_succ] at hu
      cases m with
      | zero => rfl
      | succ m =>
        simp only [List.length_cons] at hm
        have e := ih (u / 128) (by omega) m (by omega)
        simp only [List.take_succ_cons, fin, e]
        rw [if_neg (by omega)]; rfl
theorem val_enc (n : Nat) : ∀ u, u < 128 ^ n → val (enc u) = u := by
  induction n with
  | zero => intro u hu; rw [enc_small (by omega)]; simp [val]; omega
  | succ n ih =>
    intro u hu
    by_cases h : u < 128
    · rw [enc_small h]; simp [val]; omega
    · rw [enc_big h]
      rw [Nat.pow_succ] at hu
      simp only [val, ih (u / 128) (by omega)]; omega
theorem val_lt (l : List Nat) : val l < 128 ^ l.length := by
  induction l with
  | nil => simp [val]
  | cons b r ih => simp only [val, List.length_cons, Nat.pow_succ]; omega
theorem val_app (a b : List Nat) : val (a ++ b) = val a + 128 ^ a.length * val b := by
  induction a with
  | nil => simp [val]
  | cons x r ih =>
    simp only [List.cons_append, val, ih, List.length_cons, Nat.pow_succ]
    rw [Nat.mul_add, ← Nat.mul_assoc, Nat.mul_comm 128 (128 ^ r.length)]; omega
theorem fin_le (l : List Nat) : fin l ≤ l.length := by
  induction l with
  | nil => simp [fin]
  | cons b r ih => simp only [fin, List.length_cons]; split <;> (try split) <;> omega
theorem val_bound (l : List Nat) (h0 : fin (l.take 10) ≠ 0) (hc : ¬ ((fin (l.take 10) = 10 ∧ 1 < l.getD 9 0) ∨ (1 < fin (l.take 10) ∧ l.getD (fin (l.take 10) - 1) 0 = 0))) :
    val (l.take (fin (l.take 10))) < 18446744073709551616 := by
  have hf := fin_le (l.take 10)
  rw [List.length_take] at hf
  generalize fin (l.take 10) = n at *
  have e9 : (128 : Nat) ^ 9 = 9223372036854775808 := by decide
  by_cases c : n = 10
  · subst c
    have h9 : ¬ 1 < l.getD 9 0 := fun z => hc (Or.inl ⟨rfl, z⟩)
    have hl : 9 < l.length := by omega
    rw [List.take_succ_eq_append_getElem hl, val_app]
    have hv := val_lt (l.take 9)
    rw [List.length_take, Nat.min_eq_left (by omega), e9] at hv
    rw [List.getD_eq_getElem?_getD, List.getElem?_eq_getElem hl] at h9
    simp only [Option.getD_some] at h9
    rw [List.length_take, Nat.min_eq_left (by omega), e9]
    simp only [val]
    omega
  · have hv := val_lt (l.take n)
    have : 128 ^ (l.take n).length ≤ 128 ^ 9 := Nat.pow_le_pow_right (by decide) (by rw [List.length_take]; omega)
    omega
/-- The last byte of a number's bytes. -/
theorem enc_last (n : Nat) : ∀ u, u < 128 ^ n → ∀ r, (enc u ++ r).getD ((enc u).length - 1) 0 = u / 128 ^ ((enc u).length - 1) ∧ (1 < (enc u).length → 1 ≤ u / 128 ^ ((enc u).length - 1)) := by
  induction n with
  | zero => intro u hu r; rw [enc_small (by omega)]; simp
  | succ n ih =>
    intro u hu r
    by_cases h : u < 128
    · rw [enc_small h]; simp
    · have hp := enc_pos (u / 128)
      rw [Nat.pow_succ] at hu
      obtain ⟨e1, e2⟩ := ih (u / 128) (by omega) r
      rw [enc_big h]
      simp only [List.length_cons, Nat.add_sub_cancel, List.cons_append]
      have hk : (enc (u / 128)).length = ((enc (u / 128)).length - 1) + 1 := by omega
      have hq : u / 128 ^ (enc (u / 128)).length = u / 128 / 128 ^ ((enc (u / 128)).length - 1) := by
        conv => lhs; rw [hk]
        rw [Nat.pow_succ, Nat.mul_comm, Nat.div_div_eq_div_mul]
      constructor
      · rw [hq, ← e1]
        conv => lhs; rw [hk]
        rw [List.getD_cons_succ]
      · intro _
        rw [hq]
        by_cases c : 1 < (enc (u / 128)).length
        · exact e2 c
        · have : (enc (u / 128)).length - 1 = 0 := by omega
          rw [this]; simp; omega
theorem getS_enc {u : Nat} (hu : u < 18446744073709551616) (r : List Nat) (p : Int) : getS (enc u ++ r) p = (unzig u, p + (enc u).length, 0) := by
  have hu' : u < 128 ^ 10 := Nat.lt_of_lt_of_le hu (by decide)
  have h10 := enc_len10 hu
  have hp := enc_pos u
  have hf : fin ((enc u ++ r).take 10) = (enc u).length := by
    rw [List.take_append, List.take_of_length_le h10]
    exact fin_enc _ 10 u hu'
  obtain ⟨l1, l2⟩ := enc_last 10 u hu' r
  unfold getS
  rw [hf, if_neg (by omega), if_neg]
  · rw [List.take_left, val_enc 10 u hu']
  · rintro (⟨h1, h2⟩ | ⟨h1, h2⟩)
    · rw [h1] at l1
      have : u / 128 ^ (10 - 1) ≤ 1 := by
        have : u / 128 ^ (10 - 1) < 2 := Nat.div_lt_of_lt_mul (by simpa using hu)
        omega
      have : (enc u ++ r).getD 9 0 = u / 128 ^ (10 - 1) := l1
      omega
    · rw [l1] at h2
      have := l2 h1
      omega
theorem enc_of (l : List Nat) : (∀ x ∈ l, x < 256) → fin l = l.length → 1 ≤ l.length → (l.length = 1 ∨ l.getD (l.length - 1) 0 ≠ 0) → enc (val l) = l := by
  induction l with
  | nil => intro _ _ h; simp at h
  | cons b r ih =>
    intro hb hf h1 hl
    have hb0 := hb b (List.mem_cons_self ..)
    cases r with
    | nil =>
      have : b < 128 := by
        by_cases c : b < 128
        · exact c
        · simp [fin, c] at hf
      simp only [val]
      rw [enc_small (by omega)]; congr 1; omega
    | cons c r =>
      have hbig : ¬ b < 128 := by
        intro c'; simp [fin, c'] at hf
      have hf' : fin (c :: r) = (c :: r).length := by
        rw [fin, if_neg hbig] at hf
        by_cases z : fin (c :: r) = 0
        · rw [if_pos z] at hf; simp at hf
        · rw [if_neg z] at hf; simpa using hf
      have hl' : (c :: r).length = 1 ∨ (c :: r).getD ((c :: r).length - 1) 0 ≠ 0 := by
        rcases hl with hl | hl
        · simp at hl
        · refine Or.inr ?_
          simpa using hl
      have e := ih (fun x hx => hb x (List.mem_cons_of_mem _ hx)) hf' (by simp) hl'
      have hv : val (c :: r) ≠ 0 := by
        intro z
        rw [z, enc_small (by decide)] at e
        have : c = 0 ∧ r = [] := by simpa using e.symm
        obtain ⟨rfl, rfl⟩ := this
        rcases hl with hl | hl
        · simp at hl
        · simp at hl
      have ev : val (b :: c :: r) = b % 128 + 128 * val (c :: r) := rfl
      rw [ev, enc_big (by omega)]
      rw [show (b % 128 + 128 * val (c :: r)) / 128 = val (c :: r) by omega, e]
      congr 1; omega
theorem fin_take (l : List Nat) : fin l ≠ 0 → fin (l.take (fin l)) = fin l := by
  induction l with
  | nil => intro h; simp [fin] at h
  | cons b r ih =>
    intro h
    by_cases c : b < 128
    · have : fin (b :: r) = 1 := by simp [fin, c]
      rw [this]; simp [fin, c]
    · by_cases z : fin r = 0
      · exfalso; apply h; simp [fin, c, z]
      · have e : fin (b :: r) = fin r + 1 := by simp [fin, c, z]
        rw [e, List.take_succ_cons]
        simp [fin, c, ih z, z]
theorem getS_ok {l : List Nat} {p x q : Int} (hb : ∀ y ∈ l, y < 256) (h : getS l p = (x, q, 0)) :
    ∃ u r, u < 18446744073709551616 ∧ l = enc u ++ r ∧ x = unzig u ∧ q = p + (enc u).length := by
  unfold getS at h
  by_cases h0 : fin (l.take 10) = 0
  · rw [if_pos h0] at h
    split at h <;> simp at h
  · rw [if_neg h0] at h
    by_cases hc : (fin (l.take 10) = 10 ∧ 1 < l.getD 9 0) ∨ (1 < fin (l.take 10) ∧ l.getD (fin (l.take 10) - 1) 0 = 0)
    · rw [if_pos hc] at h; simp at h
    · rw [if_neg hc] at h
      simp only [Prod.mk.injEq] at h
      obtain ⟨h1, h2, _⟩ := h
      have hvb := val_bound l h0 hc
      generalize hn : fin (l.take 10) = n at *
      have hle : n ≤ 10 := by
        have := fin_le (l.take 10)
        rw [List.length_take] at this; omega
      have hll : n ≤ l.length := by
        have := fin_le (l.take 10)
        rw [List.length_take] at this; omega
      have ht : (l.take n).length = n := by rw [List.length_take]; omega
      have hfn : fin (l.take n) = n := by
        have := fin_take (l.take 10) (by omega)
        rw [hn, List.take_take, Nat.min_eq_left hle] at this
        exact this
      have hlast : (l.take n).getD (n - 1) 0 = l.getD (n - 1) 0 := by
        rw [List.getD_eq_getElem?_getD, List.getD_eq_getElem?_getD, List.getElem?_take_of_lt (by omega)]
      have he : enc (val (l.take n)) = l.take n := by
        refine enc_of _ (fun y hy => hb y (List.mem_of_mem_take hy)) (by rw [hfn, ht]) (by omega) ?_
        rw [ht, hlast]
        by_cases c : n = 1
        · exact Or.inl c
        · exact Or.inr (fun z => hc (Or.inr ⟨by omega, z⟩))
      refine ⟨val (l.take n), l.drop n, ?_, ?_, h1.symm, ?_⟩
      · exact hvb
      · rw [he, List.take_append_drop]
      · rw [he, ht]; exact h2.symm
theorem getS_code (l : List Nat) (p : Int) : (getS l p).2.2 = 0 ∨ getS l p = (0, 0, 700) ∨ getS l p = (0, 0, 701) := by
  unfold getS
  split
  · split <;> simp
  · split <;> simp
theorem unzig_zig (x : Int) : unzig (zig x) = x := by
  unfold unzig zig
  by_cases h : 0 ≤ x
  · rw [if_pos h, if_pos (by omega)]; omega
  · rw [if_neg h, if_neg (by omega)]; omega
theorem zig_unzig (u : Nat) : zig (unzig u) = u := by
  unfold unzig zig
  by_cases h : u % 2 = 0
  · rw [if_pos h, if_pos (by omega)]; omega
  · rw [if_neg h, if_neg (by omega)]; omega
theorem zig_lt {x : Int} (h1 : -9223372036854775808 ≤ x) (h2 : x ≤ 9223372036854775807) : zig x < 18446744073709551616 := by
  unfold zig; split <;> omega
theorem unzig_range {u : Nat} (h : u < 18446744073709551616) : -9223372036854775808 ≤ unzig u ∧ unzig u ≤ 9223372036854775807 := by
  unfold unzig; split <;> omega
theorem getS_cut {u : Nat} (hu : u < 18446744073709551616) (m : Nat) (hm : m < (enc u).length) (p : Int) : getS ((enc u).take m) p = (0, 0, 701) := by
  have h10 := enc_len10 hu
  unfold getS
  rw [List.take_take, Nat.min_eq_right (by omega), fin_cut 10 u (Nat.lt_of_lt_of_le hu (by decide)) m hm, if_pos rfl, if_pos (by rw [List.length_take]; omega)]
theorem enc_inj {u v : Nat} (hu : u < 18446744073709551616) (hv : v < 18446744073709551616) (r t : List Nat) (h : enc u ++ r = enc v ++ t) : u = v ∧ r = t := by
  have h1 := getS_enc hu r 0
  have h2 := getS_enc hv t 0
  rw [h, h2] at h1
  simp only [Prod.mk.injEq] at h1
  have e : u = v := by rw [← zig_unzig u, ← zig_unzig v, h1.1]
  subst e
  exact ⟨rfl, List.append_cancel_left h⟩

theorem fin_small {b : Nat} (h : b < 128) (r : List Nat) : fin (b :: r) = 1 := by simp [fin, h]
theorem fin_big0 {b : Nat} (h : ¬ b < 128) {r : List Nat} (z : fin r = 0) : fin (b :: r) = 0 := by simp [fin, h, z]
theorem fin_big1 {b : Nat} (h : ¬ b < 128) {r : List Nat} (z : fin r ≠ 0) : fin (b :: r) = fin r + 1 := by simp [fin, h, z]

/-! ### vbits -/
theorem u8or_all : ∀ n : Fin 256, Go.bits .or .u8 (n.val : Int) 128 = ((n.val % 128 + 128 : Nat) : Int) := by decide +kernel
theorem u8and_all : ∀ n : Fin 256, Go.bits .and .u8 (n.val : Int) 127 = ((n.val % 128 : Nat) : Int) := by decide +kernel
theorem u8or (n : Nat) (h : n < 256) : Go.bits .or .u8 (n : Int) 128 = ((n % 128 + 128 : Nat) : Int) := u8or_all ⟨n, h⟩
theorem u8and (n : Nat) (h : n < 256) : Go.bits .and .u8 (n : Int) 127 = ((n % 128 : Nat) : Int) := u8and_all ⟨n, h⟩
theorem wrap_u64 (n : Int) : IntKind.u64.wrap n = n % 18446744073709551616 := by simp [IntKind.wrap, IntKind.bits, IntKind.signed]
theorem wrap_u64_id {n : Int} (h0 : 0 ≤ n) (h1 : n < 18446744073709551616) : IntKind.u64.wrap n = n := by rw [wrap_u64]; omega
theorem bv_nat (x : Nat) (h : x < 18446744073709551616) : (BitVec.ofInt 64 (x : Int)).toNat = x := by
  rw [BitVec.ofInt_natCast, BitVec.toNat_ofNat]; exact Nat.mod_eq_of_lt h
theorem xor64_zero (x : Nat) (h : x < 18446744073709551616) : Go.bits .xor .u64 (x : Int) 0 = (x : Int) := by
  show IntKind.u64.wrap (((BitVec.ofInt 64 (x : Int) ^^^ BitVec.ofInt 64 0).toNat : Nat) : Int) = _
  rw [show BitVec.ofInt 64 0 = 0#64 from rfl, BitVec.xor_zero, bv_nat x h, wrap_u64]; omega
theorem xor64_ones (x : Nat) (h : x < 18446744073709551616) : Go.bits .xor .u64 (x : Int) 18446744073709551615 = 18446744073709551615 - (x : Int) := by
  show IntKind.u64.wrap (((BitVec.ofInt 64 (x : Int) ^^^ BitVec.ofInt 64 18446744073709551615).toNat : Nat) : Int) = _
  rw [show BitVec.ofInt 64 18446744073709551615 = BitVec.allOnes 64 from by decide, BitVec.xor_allOnes, BitVec.toNat_not, bv_nat x h, wrap_u64]; omega
theorem xori_zero (x : Nat) (h : x < 9223372036854775808) : Go.bits .xor .i64 (x : Int) 0 = (x : Int) := by
  show IntKind.i64.wrap (((BitVec.ofInt 64 (x : Int) ^^^ BitVec.ofInt 64 0).toNat : Nat) : Int) = _
  rw [show BitVec.ofInt 64 0 = 0#64 from rfl, BitVec.xor_zero, bv_nat x (by omega), IntKind.wrap_i64]; omega
theorem xori_ones (x : Nat) (h : x < 9223372036854775808) : Go.bits .xor .i64 (x : Int) (-1) = -(x : Int) - 1 := by
  show IntKind.i64.wrap (((BitVec.ofInt 64 (x : Int) ^^^ BitVec.ofInt 64 (-1)).toNat : Nat) : Int) = _
  rw [show BitVec.ofInt 64 (-1) = BitVec.allOnes 64 from by decide, BitVec.xor_allOnes, BitVec.toNat_not, bv_nat x (by omega), IntKind.wrap_i64]; omega
theorem and64_one (x : Nat) (h : x < 18446744073709551616) : Go.bits .and .u64 (x : Int) 1 = ((x % 2 : Nat) : Int) := by
  have := bits_mask .u64 64 (Nat.le_refl _) (fun n h0 h1 => wrap_u64_id h0 (by simpa using h1)) 1 (by decide) (x : Int) (by omega) (by simpa using Int.ofNat_lt.2 h)
  simpa using this
theorem or64 (x y : Nat) (hx : x < 18446744073709551616) (hd : x % 128 = 0) (hy : y < 128) : Go.bits .or .u64 (x : Int) (y : Int) = ((x + y : Nat) : Int) := by
  have := bits_join .u64 64 (Nat.le_refl _) (fun n h0 h1 => wrap_u64_id h0 (by simpa using h1)) 7 (x : Int) (y : Int) (by omega) (by simp; omega) (by simpa using Int.ofNat_lt.2 hx) (by omega) (by simp; omega) (by simp; omega)
  rw [this]; simp
/-- Bytes of small numbers. -/
def S (l : List Nat) : ByteArray := strOfNums (l.map fun n : Nat => (n : Int))
theorem L_S {l : List Nat} (h : ∀ x ∈ l, x < 256) : L (S l) = l := L_str l h
theorem put_u {x : Int} (h1 : -9223372036854775808 ≤ x) (h2 : x ≤ 9223372036854775807) :
    Go.bits .xor .u64 (IntKind.u64.wrap ((IntKind.u64.wrap x) * 2)) (IntKind.u64.wrap (x / 9223372036854775808)) = ((zig x : Nat) : Int) := by
  unfold zig
  by_cases h : 0 ≤ x
  · have e1 : IntKind.u64.wrap (x / 9223372036854775808) = 0 := by rw [wrap_u64]; omega
    have e2 : IntKind.u64.wrap ((IntKind.u64.wrap x) * 2) = (((2 * x).toNat : Nat) : Int) := by rw [wrap_u64, wrap_u64]; omega
    rw [e1, e2, xor64_zero _ (by omega), if_pos h]
  · have e1 : IntKind.u64.wrap (x / 9223372036854775808) = 18446744073709551615 := by rw [wrap_u64]; omega
    have e2 : IntKind.u64.wrap ((IntKind.u64.wrap x) * 2) = (((2 * x + 18446744073709551616).toNat : Nat) : Int) := by rw [wrap_u64, wrap_u64]; omega
    rw [e1, e2, xor64_ones _ (by omega), if_neg h]; omega
theorem xor64_ones' (x : Nat) (h : x < 18446744073709551616) : Go.bits .xor .u64 18446744073709551615 (x : Int) = 18446744073709551615 - (x : Int) := by
  show IntKind.u64.wrap (((BitVec.ofInt 64 18446744073709551615 ^^^ BitVec.ofInt 64 (x : Int)).toNat : Nat) : Int) = _
  rw [show BitVec.ofInt 64 18446744073709551615 = BitVec.allOnes 64 from by decide, BitVec.xor_comm, BitVec.xor_allOnes, BitVec.toNat_not, bv_nat x h, wrap_u64]; omega
theorem or128u_all : ∀ n : Fin 128, (Go.bits .or .u64 (n.val : Int) 128) % 256 = ((n.val + 128 : Nat) : Int) := by decide +kernel
theorem and127u (x : Nat) (h : x < 18446744073709551616) : Go.bits .and .u64 (x : Int) 127 = ((x % 128 : Nat) : Int) := by
  have := bits_mask .u64 64 (Nat.le_refl _) (fun n h0 h1 => wrap_u64_id h0 (by simpa using h1)) 7 (by decide) (x : Int) (by omega) (by simpa using Int.ofNat_lt.2 h)
  simpa using this
theorem fin_app0 (b : Nat) (hb : ¬ b < 128) : ∀ l, fin l = 0 → fin (l ++ [b]) = 0 := by
  intro l
  induction l with
  | nil => intro _; simp [fin, hb]
  | cons c r ih =>
    intro h
    by_cases c1 : c < 128
    · simp [fin, c1] at h
    · have hr : fin r = 0 := by
        by_cases z : fin r = 0
        · exact z
        · simp [fin, c1, z] at h
      simp [fin, c1, ih hr]
theorem fin_app1 (b : Nat) (hb : b < 128) (t : List Nat) : ∀ l, fin l = 0 → fin (l ++ b :: t) = l.length + 1 := by
  intro l
  induction l with
  | nil => intro _; simp [fin, hb]
  | cons c r ih =>
    intro h
    by_cases c1 : c < 128
    · simp [fin, c1] at h
    · have hr : fin r = 0 := by
        by_cases z : fin r = 0
        · exact z
        · simp [fin, c1, z] at h
      simp [fin, c1, ih hr]

/-! ### vcode -/
theorem put_l0 (n : Nat) : ∀ (u : Nat) (acc : List Nat), u < 128 ^ (n + 1) → acc.length + n + 1 < 140737488355328 → ∀ k, n < k → varint_Put.l0 k (u : Int) (acc.map fun n : Nat => (n : Int)) = some (S (acc ++ enc u)) := by
  induction n with
  | zero =>
    intro u acc hu hl k hk
    obtain ⟨k, rfl⟩ : ∃ m, k = m + 1 := ⟨k - 1, by omega⟩
    have hu : u < 128 := by simpa using hu
    simp only [varint_Put.l0]
    rw [if_neg (by omega), List.length_map, if_pos (by omega), enc_small hu]
    rw [show (u : Int) % 256 = (u : Int) by omega]
    simp [S]
  | succ n ih =>
    intro u acc hu hl k hk
    obtain ⟨k, rfl⟩ : ∃ m, k = m + 1 := ⟨k - 1, by omega⟩
    simp only [varint_Put.l0]
    by_cases h : u < 128
    · rw [if_neg (by omega), List.length_map, if_pos (by omega), enc_small h]
      rw [show (u : Int) % 256 = (u : Int) by omega]
      simp [S]
    · rw [if_pos (by omega), List.length_map, if_pos (by omega)]
      have e1 : (u : Int) / 128 = ((u / 128 : Nat) : Int) := by omega
      have e2 : (u : Int) % 256 = ((u % 256 : Nat) : Int) := by omega
      rw [e1, e2, u8or _ (by omega), enc_big h]
      have e3 : u % 256 % 128 + 128 = u % 128 + 128 := by omega
      rw [e3]
      rw [Nat.pow_succ] at hu
      have := ih (u / 128) (acc ++ [u % 128 + 128]) (by omega) (by simp; omega) k (by omega)
      rw [List.map_append] at this
      simp only [List.map_cons, List.map_nil] at this
      rw [this, List.append_assoc]; rfl
theorem put_ev {x : Int} (h1 : -9223372036854775808 ≤ x) (h2 : x ≤ 9223372036854775807) : ∀ k, 11 ≤ k → varint_Put.f k x = some (S (enc (zig x))) := by
  intro k hk
  unfold varint_Put.f
  rw [put_u h1 h2]
  exact put_l0 9 (zig x) [] (Nat.lt_of_lt_of_le (zig_lt h1 h2) (by decide)) (by simp) k (by omega)
theorem L_put {x : Int} (h1 : -9223372036854775808 ≤ x) (h2 : x ≤ 9223372036854775807) : L (S (enc (zig x))) = enc (zig x) :=
  L_S (enc_lt 10 _ (Nat.lt_of_lt_of_le (zig_lt h1 h2) (by decide)))
def eo (n i : Nat) : Nat := if n = 0 then 0 else i + n
theorem eo_zero (i : Nat) : eo 0 i = 0 := rfl
theorem eo_pos {n : Nat} (h : n ≠ 0) (i : Nat) : eo n i = i + n := by unfold eo; rw [if_neg h]
theorem ends_l0 (s : ByteArray) (m : Nat) (hm : m ≤ s.size) (h10 : m ≤ 10) (d : Nat) : ∀ (i k : Nat), m - i = d → i ≤ m → d < k →
    varint_ends.l0 k s (m : Int) (i : Int) = some ((eo (fin (((L s).take m).drop i)) i : Nat) : Int) := by
  have hlen := L_len s
  induction d with
  | zero =>
    intro i k hd hi hk
    obtain ⟨k, rfl⟩ : ∃ m, k = m + 1 := ⟨k - 1, by omega⟩
    obtain rfl : i = m := by omega
    simp only [varint_ends.l0]
    rw [if_neg (by omega), List.drop_eq_nil_of_le (by rw [List.length_take]; omega)]
    rfl
  | succ d ih =>
    intro i k hd hi hk
    obtain ⟨k, rfl⟩ : ∃ m, k = m + 1 := ⟨k - 1, by omega⟩
    simp only [varint_ends.l0]
    have hlt : i < ((L s).take m).length := by rw [List.length_take]; omega
    rw [if_pos (by omega), if_pos (by omega), if_pos (by omega), List.drop_eq_getElem_cons hlt]
    have hb : bt s (i : Int) = ((((L s).take m)[i] : Nat) : Int) := by
      rw [bt_L, Int.toNat_natCast, List.getElem_take, List.getD_eq_getElem?_getD, List.getElem?_eq_getElem (by omega)]; rfl
    have hw : wrap64 ((i : Int) + 1) = ((i + 1 : Nat) : Int) := by rw [wrap64_id (by omega) (by omega)]; omega
    rw [hb, hw]
    clear hb hw
    by_cases c : ((L s).take m)[i] < 128
    · have hc : ((((L s).take m)[i] : Nat) : Int) < 128 := by omega
      have e := fin_small c (List.drop (i + 1) (List.take m (L s)))
      rw [if_pos hc, e, eo_pos (by decide)]
    · have hc : ¬ ((((L s).take m)[i] : Nat) : Int) < 128 := by omega
      rw [if_neg hc, ih (i + 1) k (by omega) (by omega) (by omega)]
      by_cases z : fin (((L s).take m).drop (i + 1)) = 0
      · have e := fin_big0 c z
        rw [e, z, eo_zero, eo_zero]
      · have e := fin_big1 c z
        rw [e, eo_pos z, eo_pos (by omega)]
        congr 2; omega
theorem ends_ev (s : ByteArray) : ∀ k, 12 ≤ k → varint_ends.f k s = some ((fin ((L s).take 10) : Nat) : Int) := by
  intro k hk
  have hlen := L_len s
  unfold varint_ends.f
  have hm : mn (s.size : Int) 10 = ((min s.size 10 : Nat) : Int) := by unfold mn; split <;> omega
  rw [hm, show (0 : Int) = ((0 : Nat) : Int) from rfl, ends_l0 s (min s.size 10) (by omega) (by omega) (min s.size 10) 0 k (by omega) (by omega) (by omega)]
  rw [List.drop_zero]
  have ht : (L s).take (min s.size 10) = (L s).take 10 := by
    by_cases c : s.size ≤ 10
    · rw [Nat.min_eq_left c, List.take_of_length_le (by omega), List.take_of_length_le (by omega)]
    · rw [Nat.min_eq_right (by omega)]
  rw [ht]
  by_cases z : fin ((L s).take 10) = 0
  · rw [z, eo_zero]
  · rw [eo_pos z, Nat.zero_add]
theorem val_drop (l : List Nat) : ∀ i, val (l.drop i) ≤ val l := by
  induction l with
  | nil => intro i; simp
  | cons b r ih =>
    intro i
    cases i with
    | zero => simp
    | succ i => have := ih i; simp only [List.drop_succ_cons, val]; omega
theorem get_l0 (s : ByteArray) (p n : Nat) (hn : n ≤ 10) (hp : p + n ≤ s.size) (hs : s.size ≤ 4611686018427387904) (hv : val (((L s).drop p).take n) < 18446744073709551616) :
    ∀ i k, i ≤ n → i < k → varint_Get.l0 k s (p : Int) (n : Int) ((val ((((L s).drop p).take n).drop i) : Nat) : Int) ((i : Int) - 1) = some (unzig (val (((L s).drop p).take n)), ((p + n : Nat) : Int), 0) := by
  have hlen := L_len s
  intro i
  induction i with
  | zero =>
    intro k _ hk
    obtain ⟨k, rfl⟩ : ∃ m, k = m + 1 := ⟨k - 1, by omega⟩
    simp only [varint_Get.l0]
    rw [if_neg (by omega), List.drop_zero]
    generalize val (((L s).drop p).take n) = u at *
    rw [and64_one u hv, wrap64_id (n := (p : Int) + (n : Int)) (by omega) (by omega), show (u : Int) / 2 = ((u / 2 : Nat) : Int) by omega, wrap64_id (n := ((u / 2 : Nat) : Int)) (by omega) (by omega)]
    unfold unzig
    by_cases c : u % 2 = 0
    · rw [if_pos c, c]
      rw [show wrap64 (-(wrap64 ((0 : Nat) : Int))) = 0 from by decide +kernel, xori_zero _ (by omega)]; simp
    · rw [if_neg c, show u % 2 = 1 by omega]
      rw [show wrap64 (-(wrap64 ((1 : Nat) : Int))) = -1 from by decide +kernel, xori_ones _ (by omega)]; simp
  | succ i ih =>
    intro k hi hk
    obtain ⟨k, rfl⟩ : ∃ m, k = m + 1 := ⟨k - 1, by omega⟩
    simp only [varint_Get.l0]
    have e0 : ((i + 1 : Nat) : Int) - 1 = (i : Int) := by omega
    have e1 : wrap64 ((p : Int) + (i : Int)) = ((p + i : Nat) : Int) := by rw [wrap64_id (by omega) (by omega)]; omega
    have e2 : wrap64 ((i : Int) - 1) = (i : Int) - 1 := wrap64_id (by omega) (by omega)
    rw [e0, e1, e2, if_pos (by omega), if_pos (by omega), if_pos (by omega)]
    have hlt : i < (((L s).drop p).take n).length := by rw [List.length_take, List.length_drop]; omega
    have hd := val_drop (((L s).drop p).take n) i
    have ih := ih k (by omega) (by omega)
    rw [List.drop_eq_getElem_cons hlt] at hd ih
    have hb : bt s ((p + i : Nat) : Int) = (((((L s).drop p).take n)[i] : Nat) : Int) := by
      rw [bt_L, Int.toNat_natCast, List.getElem_take, List.getElem_drop, List.getD_eq_getElem?_getD, List.getElem?_eq_getElem (by omega)]; rfl
    have hb2 : (((L s).drop p).take n)[i] < 256 := L_lt s _ (List.mem_of_mem_drop (List.mem_of_mem_take (List.getElem_mem hlt)))
    rw [hb]
    clear hb
    generalize (((L s).drop p).take n)[i] = b at *
    simp only [val] at hd ih
    generalize val ((((L s).drop p).take n).drop (i + 1)) = u at *
    rw [u8and b hb2, wrap_u64_id (n := (u : Int) * 128) (by omega) (by omega), wrap_u64_id (n := ((b % 128 : Nat) : Int)) (by omega) (by omega)]
    rw [show (u : Int) * 128 = ((u * 128 : Nat) : Int) by omega, or64 _ _ (by omega) (by omega) (by omega)]
    rw [show u * 128 + b % 128 = b % 128 + 128 * u by omega]
    exact ih
theorem w_last (p j : Nat) (h : p + j ≤ 4611686018427387904) : wrap64 (wrap64 ((p : Int) + ((j + 1 : Nat) : Int)) - 1) = ((p + j : Nat) : Int) := by
  rw [wrap64_id (n := (p : Int) + ((j + 1 : Nat) : Int)) (by omega) (by omega), wrap64_id (by omega) (by omega)]; omega
theorem w_1p (n : Nat) (h : n ≤ 4611686018427387904) : wrap64 (1 + (n : Int)) = ((n + 1 : Nat) : Int) := by
  rw [wrap64_id (by omega) (by omega)]; omega
theorem w_p1 (n : Nat) (h : n ≤ 4611686018427387904) : wrap64 ((n : Int) + 1) = ((n + 1 : Nat) : Int) := by
  rw [wrap64_id (by omega) (by omega)]; omega
theorem w_m1 (n : Nat) (h : n ≤ 4611686018427387904) (h1 : 1 ≤ n) : wrap64 ((n : Int) - 1) = ((n - 1 : Nat) : Int) := by
  rw [wrap64_id (by omega) (by omega)]; omega
theorem w_add (n p : Nat) (h : n + p ≤ 4611686018427387904) : wrap64 ((n : Int) + (p : Int)) = ((n + p : Nat) : Int) := by
  rw [wrap64_id (by omega) (by omega)]; omega
theorem w_sub (n p : Nat) (h : n ≤ 4611686018427387904) (hp : p ≤ n) : wrap64 ((n : Int) - (p : Int)) = ((n - p : Nat) : Int) := by
  rw [wrap64_id (by omega) (by omega)]; omega
theorem w_one (m : Nat) (h : m ≤ 4611686018427387904) : wrap64 (((m + 1 : Nat) : Int) - 1) = ((m + 1 : Nat) : Int) - 1 := wrap64_id (by omega) (by omega)
theorem get_ev (s : ByteArray) (p : Nat) (hp : p ≤ s.size) (hs : s.size ≤ 4611686018427387904) : ∀ k, 20 ≤ k → varint_Get.f k s (p : Int) = some (getS ((L s).drop p) (p : Int)) := by
  intro k hk
  have hlen := L_len s
  obtain ⟨k, rfl⟩ : ∃ m, k = m + 3 := ⟨k - 3, by omega⟩
  unfold varint_Get.f
  rw [if_neg (by omega), decide_eq_false (by omega)]
  simp only [varint_Get.j0]
  rw [if_neg (by decide), if_pos (by omega), if_pos (by omega), ends_ev _ _ (by omega), L_extract, List.take_of_length_le (l := L s) (i := s.size) (by omega), Int.toNat_natCast]
  simp only [Option.bind_some]
  have hll : ((L s).drop p).length = s.size - p := by rw [List.length_drop, hlen]
  rw [w_sub s.size p hs hp]
  have hf := fin_le (((L s).drop p).take 10)
  rw [List.length_take, hll] at hf
  have hvb := val_bound ((L s).drop p)
  have hget : ∀ j, j < s.size - p → bt s (wrap64 (wrap64 ((p : Int) + ((j + 1 : Nat) : Int)) - 1)) = ((((L s).drop p).getD j 0 : Nat) : Int) ∧ 0 ≤ wrap64 (wrap64 ((p : Int) + ((j + 1 : Nat) : Int)) - 1) ∧ wrap64 (wrap64 ((p : Int) + ((j + 1 : Nat) : Int)) - 1) < (s.size : Int) := by
    intro j hj
    have q : p + j ≤ 4611686018427387904 := by omega
    rw [w_last p j q]
    refine ⟨?_, by omega, by omega⟩
    rw [bt_L, Int.toNat_natCast, List.getD_eq_getElem?_getD, List.getD_eq_getElem?_getD, List.getElem?_drop]
  have hbb : ∀ j, ((L s).drop p).getD j 0 < 256 := by
    intro j
    rw [List.getD_eq_getElem?_getD]
    by_cases c : j < ((L s).drop p).length
    · rw [List.getElem?_eq_getElem c]
      exact L_lt s _ (List.mem_of_mem_drop (List.getElem_mem c))
    · rw [List.getElem?_eq_none (by omega)]; simp
  unfold getS
  rw [hll]
  generalize hl : (L s).drop p = l at *
  generalize hn : fin (l.take 10) = n at *
  by_cases h0 : n = 0
  · subst h0
    rw [if_pos (show ((0 : Nat) : Int) = 0 from rfl)]
    simp only [varint_Get.j1]
    by_cases c : s.size - p < 10
    · have c' : ((s.size - p : Nat) : Int) < 10 := by omega
      rw [decide_eq_true c', if_pos (show true = true from rfl), if_pos True.intro, if_pos c]
    · have c' : ¬ ((s.size - p : Nat) : Int) < 10 := by omega
      rw [decide_eq_false c', if_neg (show ¬ false = true by decide), if_pos (show ((0 : Nat) : Int) = 0 from rfl), if_pos True.intro, if_neg c]
  · rw [if_neg (by omega), if_neg h0]
    simp only [varint_Get.j1]
    obtain ⟨m, rfl⟩ : ∃ m, n = m + 1 := ⟨n - 1, by omega⟩
    obtain ⟨g1, g2, g3⟩ := hget m (by omega)
    rw [if_neg (by decide), if_neg (by omega), g1, if_pos g2, if_pos g3, if_pos g2, if_pos g3]
    have hfin : (¬ ((m + 1 = 10 ∧ 1 < l.getD 9 0) ∨ (1 < m + 1 ∧ l.getD (m + 1 - 1) 0 = 0))) → varint_Get.j2 (k + 1) s (p : Int) ((m + 1 : Nat) : Int) = some (unzig (val (l.take (m + 1))), (p : Int) + ((m + 1 : Nat) : Int), 0) := by
      intro hc
      simp only [varint_Get.j2]
      have hv := hvb (by omega) hc
      have := get_l0 s p (m + 1) (by omega) (by omega) hs (by rw [hl]; exact hv) (m + 1) k (by omega) (by omega)
      rw [hl, List.drop_eq_nil_of_le (by rw [List.length_take]; omega)] at this
      simp only [val] at this
      rw [w_one m (by omega)]
      rw [show ((0 : Nat) : Int) = 0 from rfl] at this
      rw [this]
      congr 3
    have hm : m + 1 - 1 = m := by omega
    by_cases c1 : m + 1 = 10
    · obtain rfl : m = 9 := by omega
      rw [if_pos (by decide)]
      by_cases c2 : 1 < l.getD 9 0
      · rw [if_pos (by omega), if_pos (Or.inl ⟨rfl, c2⟩)]
      · rw [if_neg (by omega), if_pos (by decide)]
        by_cases c3 : l.getD 9 0 = 0
        · rw [if_pos (by omega), if_pos (Or.inr ⟨by omega, c3⟩)]
        · have hc : ¬ ((9 + 1 = 10 ∧ 1 < l.getD 9 0) ∨ (1 < 9 + 1 ∧ l.getD (9 + 1 - 1) 0 = 0)) := by
            show ¬ ((10 = 10 ∧ 1 < l.getD 9 0) ∨ (1 < 10 ∧ l.getD 9 0 = 0))
            omega
          rw [if_neg (by omega), hfin hc, if_neg hc]
    · rw [if_neg (by omega)]
      by_cases c2 : 1 < m + 1
      · rw [if_pos (by omega)]
        by_cases c3 : l.getD m 0 = 0
        · rw [if_pos (by omega), if_pos (Or.inr ⟨c2, c3⟩)]
        · rw [if_neg (by omega), hfin (by rw [hm]; omega), if_neg (by rw [hm]; omega)]
      · rw [if_neg (by omega), hfin (by omega), if_neg (by omega)]
theorem get_form (s : ByteArray) (p : Int) (h : p < 0 ∨ (s.size : Int) < p) : ∀ k, 1 ≤ k → varint_Get.f k s p = some (0, 0, 700) := by
  intro k hk
  obtain ⟨k, rfl⟩ : ∃ m, k = m + 1 := ⟨k - 1, by omega⟩
  unfold varint_Get.f
  by_cases c : p < 0
  · rw [if_pos c]; simp [varint_Get.j0]
  · rw [if_neg c, decide_eq_true (by omega)]; simp [varint_Get.j0]

/-! ### wire9 -/
def rng (x : Int) : Prop := -9223372036854775808 ≤ x ∧ x ≤ 9223372036854775807
def encs : List Int → List Nat
  | [] => []
  | x :: xs => enc (zig x) ++ encs xs
theorem S_L9 (b : ByteArray) : S (L b) = b := L_inj (L_S (L_lt b))
theorem all_l0 (xs : List Int) (hr : ∀ x ∈ xs, rng x) (hx : xs.length ≤ 100) (d : Nat) : ∀ (i k : Nat) (acc : ByteArray), xs.length - i = d → i ≤ xs.length → d + 12 ≤ k → acc.size + 10 * d ≤ 4611686018427387904 →
    varint_All.l0 k acc xs (xs.length : Int) (i : Int) = some (S (L acc ++ encs (xs.drop i))) := by
  induction d with
  | zero =>
    intro i k acc hd hi hk ha
    obtain ⟨k, rfl⟩ : ∃ m, k = m + 1 := ⟨k - 1, by omega⟩
    simp only [varint_All.l0]
    rw [if_neg (by omega), List.drop_eq_nil_of_le (by omega), encs, List.append_nil, S_L9]
  | succ d ih =>
    intro i k acc hd hi hk ha
    obtain ⟨k, rfl⟩ : ∃ m, k = m + 1 := ⟨k - 1, by omega⟩
    simp only [varint_All.l0]
    have hlt : i < xs.length := by omega
    have e : rd xs (i : Int) = xs[i] := by
      unfold rd; rw [Int.toNat_natCast, List.getD_eq_getElem?_getD, List.getElem?_eq_getElem hlt]; rfl
    have hx1 := hr xs[i] (List.getElem_mem hlt)
    have hp := L_put hx1.1 hx1.2
    have hz : (S (enc (zig xs[i]))).size ≤ 10 := by rw [← L_len, hp]; exact enc_len10 (zig_lt hx1.1 hx1.2)
    have hw : wrap64 ((i : Int) + 1) = ((i + 1 : Nat) : Int) := by rw [wrap64_id (by omega) (by omega)]; omega
    rw [if_pos (by omega), if_pos (by omega), if_pos (by omega), e, put_ev hx1.1 hx1.2 k (by omega), Option.bind_some, if_pos (by omega), hw,
      ih (i + 1) k _ (by omega) (by omega) (by omega) (by rw [ByteArray.size_append]; omega), L_append, hp, List.drop_eq_getElem_cons hlt, encs, List.append_assoc]
theorem all_ev (xs : List Int) (hr : ∀ x ∈ xs, rng x) (hx : xs.length ≤ 100) (k : Nat) (hk : xs.length + 12 ≤ k) : varint_All.f k xs = some (S (encs xs)) := by
  unfold varint_All.f
  have h := all_l0 xs hr hx xs.length 0 k (⟨#[]⟩ : ByteArray) (by omega) (by omega) hk (by show (0 : Nat) + 10 * xs.length ≤ _; omega)
  rw [show ((0 : Nat) : Int) = 0 from rfl, List.drop_zero, show L (⟨#[]⟩ : ByteArray) = [] by decide +kernel, List.nil_append] at h
  exact h
def oenc (a0 a1 a2 a3 a4 : Int) : List Nat := if a0 = 0 then encs [a0, a1, a2, a3, a4] else if a0 = 1 then encs [a0, a1, a3] else encs [a0]
theorem oMay_rng {a0 a1 a2 a3 a4 : Int} (h : oMay a0 a1 a2 a3 a4 = true) : 0 ≤ a0 ∧ a0 ≤ 2 ∧ 0 ≤ a1 ∧ a1 < 8 ∧ 0 ≤ a2 ∧ a2 ≤ 1048575 ∧ -4398046511104 ≤ a3 ∧ a3 ≤ 4398046511104 ∧ -4398046511104 ≤ a4 ∧ a4 ≤ 4398046511104 := by
  unfold oMay srcMay markMay sampMay at h
  by_cases c : a0 = 0
  · rw [if_pos c] at h; have := of_decide_eq_true h; omega
  · rw [if_neg c] at h
    by_cases c1 : a0 = 1
    · rw [if_pos c1] at h; simp only [Bool.and_eq_true, decide_eq_true_eq, beq_iff_eq] at h; omega
    · rw [if_neg c1] at h; simp only [Bool.and_eq_true, beq_iff_eq] at h; omega
theorem put_no {a0 a1 a2 a3 a4 : Int} (h : oMay a0 a1 a2 a3 a4 = false) (k : Nat) : wire_Put.f k a0 a1 a2 a3 a4 = some ((⟨#[]⟩ : ByteArray), 900) := by
  unfold wire_Put.f wire_May.f
  rw [h]; rfl
theorem wput_ok {a0 a1 a2 a3 a4 : Int} (h : oMay a0 a1 a2 a3 a4 = true) (k : Nat) (hk : 20 ≤ k) : wire_Put.f k a0 a1 a2 a3 a4 = some (S (oenc a0 a1 a2 a3 a4), 0) := by
  have hr := oMay_rng h
  unfold wire_Put.f wire_May.f oenc
  rw [h, Option.bind_some, if_pos rfl]
  have r5 : ∀ x ∈ [a0, a1, a2, a3, a4], rng x := by
    intro x hx; simp only [List.mem_cons, List.not_mem_nil, or_false] at hx; unfold rng; omega
  have r3 : ∀ x ∈ [a0, a1, a3], rng x := by
    intro x hx; simp only [List.mem_cons, List.not_mem_nil, or_false] at hx; unfold rng; omega
  have r1 : ∀ x ∈ [a0], rng x := by
    intro x hx; simp only [List.mem_cons, List.not_mem_nil, or_false] at hx; unfold rng; omega
  by_cases c : a0 = 0
  · rw [if_pos c, if_pos c, all_ev _ r5 (by simp) k (by simp; omega)]; rfl
  · rw [if_neg c, if_neg c]
    by_cases c1 : a0 = 1
    · rw [if_pos c1, if_pos c1, all_ev _ r3 (by simp) k (by simp; omega)]; rfl
    · rw [if_neg c1, if_neg c1, all_ev _ r1 (by simp) k (by simp; omega)]; rfl
/-! the reader on lists -/
def numM (l : List Nat) (p : Int) (b : Bool) : Int × Int × Bool := if b = true then (0, p, true) else if (getS (l.drop p.toNat) p).2.2 = 0 then ((getS (l.drop p.toNat) p).1, (getS (l.drop p.toNat) p).2.1, false) else (0, p, true)
theorem num_ev (s : ByteArray) (hs : s.size ≤ 4611686018427387904) (p : Int) (b : Bool) (h0 : 0 ≤ p) (h1 : p ≤ s.size) (k : Nat) (hk : 20 ≤ k) :
    varint_Reader_Num.f k s p b = some ((numM (L s) p b).1, s, (numM (L s) p b).2.1, (numM (L s) p b).2.2) := by
  unfold varint_Reader_Num.f numM
  have h := get_ev s p.toNat (by omega) hs k hk
  rw [Int.toNat_of_nonneg h0] at h
  rw [h, Option.bind_some]
  cases b with
  | true => rfl
  | false =>
    simp only [Bool.false_eq_true, reduceIte]
    by_cases c : (getS ((L s).drop p.toNat) p).2.2 = 0
    · simp only [if_pos c]
    · simp only [if_neg c]
theorem num_rng (l : List Nat) (hb : ∀ y ∈ l, y < 256) (p : Int) (b : Bool) (h0 : 0 ≤ p) (h1 : p ≤ l.length) : 0 ≤ (numM l p b).2.1 ∧ (numM l p b).2.1 ≤ l.length := by
  unfold numM
  cases b with
  | true => exact ⟨h0, h1⟩
  | false =>
    simp only [Bool.false_eq_true, reduceIte]
    by_cases c : (getS (l.drop p.toNat) p).2.2 = 0
    · simp only [if_pos c]
      obtain ⟨u, r, hu, hl, hx, hq⟩ := getS_ok (fun y hy => hb y (List.mem_of_mem_drop hy)) (show getS (l.drop p.toNat) p = ((getS (l.drop p.toNat) p).1, (getS (l.drop p.toNat) p).2.1, 0) by rw [← c])
      have hlen := congrArg List.length hl
      rw [List.length_drop, List.length_append] at hlen
      show 0 ≤ (getS (l.drop p.toNat) p).2.1 ∧ (getS (l.drop p.toNat) p).2.1 ≤ l.length
      rw [hq]; omega
    · simp only [if_neg c]; exact ⟨h0, h1⟩
def rawM (l : List Nat) : Int × Int × Int × Int × Int × Int × Bool :=
  let t0 := numM l 0 false
  if t0.1 = 0 then
    let t1 := numM l t0.2.1 t0.2.2
    let t2 := numM l t1.2.1 t1.2.2
    let t3 := numM l t2.2.1 t2.2.2
    let t4 := numM l t3.2.1 t3.2.2
    (t0.1, t1.1, t2.1, t3.1, t4.1, t4.2)
  else if t0.1 = 1 then
    let t1 := numM l t0.2.1 t0.2.2
    let t2 := numM l t1.2.1 t1.2.2
    (t0.1, t1.1, 0, t2.1, 0, t2.2)
  else (t0.1, 0, 0, 0, 0, t0.2)
def getM (l : List Nat) : Int × Int × Int × Int × Int × Int :=
  let q := rawM l
  if q.2.2.2.2.2.2 = false ∧ q.2.2.2.2.2.1 = l.length ∧ oMay q.1 q.2.1 q.2.2.1 q.2.2.2.1 q.2.2.2.2.1 = true then (q.1, q.2.1, q.2.2.1, q.2.2.2.1, q.2.2.2.2.1, 0) else (0, 0, 0, 0, 0, 900)
theorem raw_ev (s : ByteArray) (hs : s.size ≤ 4611686018427387904) (k : Nat) (hk : 20 ≤ k) : wire_Get.raw k s = some ((rawM (L s)).1, (rawM (L s)).2.1, (rawM (L s)).2.2.1, (rawM (L s)).2.2.2.1, (rawM (L s)).2.2.2.2.1, s, (rawM (L s)).2.2.2.2.2.1, (rawM (L s)).2.2.2.2.2.2) := by
  have hb := L_lt s
  have hlen := L_len s
  have N : ∀ (p : Int) (b : Bool), 0 ≤ p → p ≤ s.size → varint_Reader_Num.f k s p b = some ((numM (L s) p b).1, s, (numM (L s) p b).2.1, (numM (L s) p b).2.2) := fun p b a1 a2 => num_ev s hs p b a1 a2 k hk
  have R : ∀ (p : Int) (b : Bool), 0 ≤ p → p ≤ s.size → 0 ≤ (numM (L s) p b).2.1 ∧ (numM (L s) p b).2.1 ≤ s.size := fun p b a1 a2 => by
    have := num_rng (L s) hb p b a1 (by omega); omega
  unfold wire_Get.raw rawM
  have r0 := R 0 false (by omega) (by omega)
  rw [N 0 false (by omega) (by omega), Option.bind_some]
  dsimp only
  generalize numM (L s) 0 false = t0 at *
  by_cases c : t0.1 = 0
  · have r1 := R t0.2.1 t0.2.2 r0.1 r0.2
    have r2 := R _ (numM (L s) t0.2.1 t0.2.2).2.2 r1.1 r1.2
    have r3 := R _ (numM (L s) (numM (L s) t0.2.1 t0.2.2).2.1 (numM (L s) t0.2.1 t0.2.2).2.2).2.2 r2.1 r2.2
    rw [if_pos c, if_pos c, N _ _ r0.1 r0.2, Option.bind_some]
    dsimp only
    rw [N _ _ r1.1 r1.2, Option.bind_some]
    dsimp only
    rw [N _ _ r2.1 r2.2, Option.bind_some]
    dsimp only
    rw [N _ _ r3.1 r3.2, Option.bind_some]
  · rw [if_neg c, if_neg c]
    by_cases c1 : t0.1 = 1
    · have r1 := R t0.2.1 t0.2.2 r0.1 r0.2
      rw [if_pos c1, if_pos c1, N _ _ r0.1 r0.2, Option.bind_some]
      dsimp only
      rw [N _ _ r1.1 r1.2, Option.bind_some]
    · rw [if_neg c1, if_neg c1]
theorem get_all (s : ByteArray) (hs : s.size ≤ 4611686018427387904) (k : Nat) (hk : 20 ≤ k) : wire_Get.f k s = some (getM (L s)) := by
  have hlen := L_len s
  unfold wire_Get.f getM
  rw [raw_ev s hs k hk, Option.bind_some]
  dsimp only
  generalize rawM (L s) = q
  obtain ⟨n0, n1, n2, n3, n4, p, b⟩ := q
  dsimp only
  cases b with
  | true => simp only [reduceIte, Bool.false_eq_true, Bool.true_eq_false, false_and]
  | false =>
    by_cases c : p = (s.size : Int)
    · rw [if_pos (by simp [c])]
      by_cases m : oMay n0 n1 n2 n3 n4 = true
      · rw [if_pos m, if_pos ⟨rfl, by omega, m⟩]
      · rw [if_neg m, if_neg (fun h => m h.2.2)]
    · rw [if_neg (by simp [c]), if_neg (fun h => c (by omega))]
theorem oMay_iff {a0 a1 a2 a3 a4 : Int} : oMay a0 a1 a2 a3 a4 = true ↔ (a0 = 0 ∧ 0 ≤ a1 ∧ a1 < 8 ∧ 0 ≤ a2 ∧ a2 ≤ 1048575 ∧ -1099511627776 ≤ a3 ∧ a3 ≤ 1099511627776 ∧ -1099511627776 ≤ a4 ∧ a4 ≤ 1099511627776) ∨ (a0 = 1 ∧ 0 ≤ a1 ∧ a1 < 8 ∧ -4398046511104 < a3 ∧ a3 ≤ 4398046511104 ∧ a2 = 0 ∧ a4 = 0) ∨ (a0 = 2 ∧ a1 = 0 ∧ a2 = 0 ∧ a3 = 0 ∧ a4 = 0) := by
  unfold oMay srcMay markMay sampMay
  by_cases c : a0 = 0
  · rw [if_pos c, decide_eq_true_eq]; omega
  · rw [if_neg c]
    by_cases c1 : a0 = 1
    · rw [if_pos c1]; simp only [Bool.and_eq_true, decide_eq_true_eq, beq_iff_eq]; omega
    · rw [if_neg c1]; simp only [Bool.and_eq_true, beq_iff_eq]; omega
theorem o_no {a0 a1 a2 a3 a4 : Int} (h : ¬ ((a0 = 0 ∧ 0 ≤ a1 ∧ a1 < 8 ∧ 0 ≤ a2 ∧ a2 ≤ 1048575 ∧ -1099511627776 ≤ a3 ∧ a3 ≤ 1099511627776 ∧ -1099511627776 ≤ a4 ∧ a4 ≤ 1099511627776) ∨ (a0 = 1 ∧ 0 ≤ a1 ∧ a1 < 8 ∧ -4398046511104 < a3 ∧ a3 ≤ 4398046511104 ∧ a2 = 0 ∧ a4 = 0) ∨ (a0 = 2 ∧ a1 = 0 ∧ a2 = 0 ∧ a3 = 0 ∧ a4 = 0))) : oMay a0 a1 a2 a3 a4 = false :=
  Bool.eq_false_iff.2 (fun e => h (oMay_iff.1 e))

/-! ### unlike9 -/
theorem zig_inj {x y : Int} (h : zig x = zig y) : x = y := by rw [← unzig_zig x, h, unzig_zig]
theorem enc1 {x y : Int} (hx : rng x) (hy : rng y) {r t : List Nat} (h : enc (zig x) ++ r = enc (zig y) ++ t) : x = y ∧ r = t := by
  have := enc_inj (zig_lt hx.1 hx.2) (zig_lt hy.1 hy.2) r t h
  exact ⟨zig_inj this.1, this.2⟩
theorem encs_inj : ∀ (xs ys : List Int), (∀ x ∈ xs, rng x) → (∀ y ∈ ys, rng y) → xs.length = ys.length → encs xs = encs ys → xs = ys
  | [], [], _, _, _, _ => rfl
  | [], _ :: _, _, _, h, _ => by simp at h
  | _ :: _, [], _, _, h, _ => by simp at h
  | x :: xs, y :: ys, hx, hy, hl, h => by
    simp only [encs] at h
    obtain ⟨e, h2⟩ := enc1 (hx x (by simp)) (hy y (by simp)) h
    subst e
    rw [encs_inj xs ys (fun z hz => hx z (by simp [hz])) (fun z hz => hy z (by simp [hz])) (by simpa using hl) h2]
theorem encs_lt : ∀ (xs : List Int), (∀ x ∈ xs, rng x) → ∀ b ∈ encs xs, b < 256
  | [], _, b, hb => by simp [encs] at hb
  | x :: xs, hx, b, hb => by
    simp only [encs, List.mem_append] at hb
    have h1 := hx x (by simp)
    rcases hb with hb | hb
    · exact enc_lt 10 _ (Nat.lt_of_lt_of_le (zig_lt h1.1 h1.2) (by decide)) b hb
    · exact encs_lt xs (fun z hz => hx z (by simp [hz])) b hb
def olist (a0 a1 a2 a3 a4 : Int) : List Int := if a0 = 0 then [a0, a1, a2, a3, a4] else if a0 = 1 then [a0, a1, a3] else [a0]
theorem oenc_list (a0 a1 a2 a3 a4 : Int) : oenc a0 a1 a2 a3 a4 = encs (olist a0 a1 a2 a3 a4) := by
  unfold oenc olist
  by_cases c : a0 = 0
  · rw [if_pos c, if_pos c]
  · rw [if_neg c, if_neg c]
    by_cases c1 : a0 = 1
    · rw [if_pos c1, if_pos c1]
    · rw [if_neg c1, if_neg c1]
theorem olist_rng {a0 a1 a2 a3 a4 : Int} (h : oMay a0 a1 a2 a3 a4 = true) : ∀ x ∈ olist a0 a1 a2 a3 a4, rng x := by
  have hr := oMay_rng h
  intro x hx
  have : x ∈ [a0, a1, a2, a3, a4] := by
    unfold olist at hx
    by_cases c : a0 = 0
    · rw [if_pos c] at hx; exact hx
    · rw [if_neg c] at hx
      by_cases c1 : a0 = 1
      · rw [if_pos c1] at hx; simp only [List.mem_cons, List.not_mem_nil, or_false] at hx ⊢; omega
      · rw [if_neg c1] at hx; simp only [List.mem_cons, List.not_mem_nil, or_false] at hx ⊢; omega
  simp only [List.mem_cons, List.not_mem_nil, or_false] at this
  unfold rng; omega
theorem L_oenc {a0 a1 a2 a3 a4 : Int} (h : oMay a0 a1 a2 a3 a4 = true) : L (S (oenc a0 a1 a2 a3 a4)) = oenc a0 a1 a2 a3 a4 := by
  apply L_S
  rw [oenc_list]
  exact encs_lt _ (olist_rng h)
theorem olist_head (a0 a1 a2 a3 a4 : Int) : ∃ r, olist a0 a1 a2 a3 a4 = a0 :: r := by
  unfold olist
  by_cases c : a0 = 0
  · rw [if_pos c]; exact ⟨_, rfl⟩
  · rw [if_neg c]
    by_cases c1 : a0 = 1
    · rw [if_pos c1]; exact ⟨_, rfl⟩
    · rw [if_neg c1]; exact ⟨_, rfl⟩
theorem olist_len (a0 a1 a2 a3 a4 b1 b2 b3 b4 : Int) : (olist a0 a1 a2 a3 a4).length = (olist a0 b1 b2 b3 b4).length := by
  unfold olist
  by_cases c : a0 = 0
  · rw [if_pos c, if_pos c]; rfl
  · rw [if_neg c, if_neg c]
    by_cases c1 : a0 = 1
    · rw [if_pos c1, if_pos c1]; rfl
    · rw [if_neg c1, if_neg c1]
theorem oenc_inj {a0 a1 a2 a3 a4 b0 b1 b2 b3 b4 : Int} (ha : oMay a0 a1 a2 a3 a4 = true) (hb : oMay b0 b1 b2 b3 b4 = true) (h : oenc a0 a1 a2 a3 a4 = oenc b0 b1 b2 b3 b4) : a0 = b0 ∧ a1 = b1 ∧ a2 = b2 ∧ a3 = b3 ∧ a4 = b4 := by
  have ra := olist_rng ha
  have rb := olist_rng hb
  rw [oenc_list, oenc_list] at h
  have e0 : a0 = b0 := by
    obtain ⟨r, hr⟩ := olist_head a0 a1 a2 a3 a4
    obtain ⟨t, ht⟩ := olist_head b0 b1 b2 b3 b4
    rw [hr, ht] at h
    simp only [encs] at h
    exact (enc1 (ra a0 (by rw [hr]; simp)) (rb b0 (by rw [ht]; simp)) h).1
  subst e0
  have hl := encs_inj _ _ ra rb (olist_len a0 a1 a2 a3 a4 b1 b2 b3 b4) h
  have ia := oMay_iff.1 ha
  have ib := oMay_iff.1 hb
  unfold olist at hl
  by_cases c : a0 = 0
  · rw [if_pos c, if_pos c] at hl
    simp only [List.cons.injEq, and_true, true_and] at hl
    omega
  · rw [if_neg c, if_neg c] at hl
    by_cases c1 : a0 = 1
    · rw [if_pos c1, if_pos c1] at hl
      simp only [List.cons.injEq, and_true, true_and] at hl
      omega
    · omega

/-! ### back9 -/
theorem numM_true (l : List Nat) (p : Int) : numM l p true = (0, p, true) := rfl
theorem drop_add {l r t : List Nat} {p : Int} (h0 : 0 ≤ p) (h : l.drop p.toNat = t ++ r) : l.drop (p + (t.length : Int)).toNat = r := by
  have e : (p + (t.length : Int)).toNat = p.toNat + t.length := by omega
  rw [e, ← List.drop_drop, h, List.drop_left]
theorem numM_enc {l r : List Nat} {p x : Int} (hx : rng x) (h0 : 0 ≤ p) (h : l.drop p.toNat = enc (zig x) ++ r) : numM l p false = (x, p + ((enc (zig x)).length : Int), false) := by
  unfold numM
  simp only [Bool.false_eq_true, reduceIte]
  rw [h, getS_enc (zig_lt hx.1 hx.2), unzig_zig]
  rfl
theorem numM_inv {l : List Nat} (hb : ∀ y ∈ l, y < 256) {p : Int} {b : Bool} (h0 : 0 ≤ p) (h : (numM l p b).2.2 = false) :
    b = false ∧ rng (numM l p b).1 ∧ 0 ≤ (numM l p b).2.1 ∧ l.drop p.toNat = enc (zig (numM l p b).1) ++ l.drop (numM l p b).2.1.toNat := by
  cases b with
  | true => rw [numM_true] at h; exact absurd h (show ¬ (true = false) by decide)
  | false =>
    unfold numM at h ⊢
    simp only [Bool.false_eq_true, reduceIte] at h ⊢
    by_cases c : (getS (l.drop p.toNat) p).2.2 = 0
    · simp only [if_pos c] at h ⊢
      obtain ⟨u, r, hu, hl, hx, hq⟩ := getS_ok (fun y hy => hb y (List.mem_of_mem_drop hy)) (show getS (l.drop p.toNat) p = ((getS (l.drop p.toNat) p).1, (getS (l.drop p.toNat) p).2.1, 0) by rw [← c])
      have ur := unzig_range hu
      rw [hx, hq, zig_unzig]
      refine ⟨trivial, ur, by omega, ?_⟩
      rw [drop_add h0 hl]; exact hl
    · simp only [if_neg c] at h; exact absurd h (show ¬ (true = false) by decide)
theorem encs_pre : ∀ (xs ys : List Int) (r t : List Nat), (∀ x ∈ xs, rng x) → (∀ y ∈ ys, rng y) → xs.length = ys.length → encs xs ++ r = encs ys ++ t → xs = ys ∧ r = t
  | [], [], _, _, _, _, _, h => ⟨rfl, h⟩
  | [], _ :: _, _, _, _, _, h, _ => by simp at h
  | _ :: _, [], _, _, _, _, h, _ => by simp at h
  | x :: xs, y :: ys, r, t, hx, hy, hl, h => by
    simp only [encs, List.append_assoc] at h
    obtain ⟨e, h2⟩ := enc1 (hx x (by simp)) (hy y (by simp)) h
    subst e
    obtain ⟨e1, e2⟩ := encs_pre xs ys r t (fun z hz => hx z (by simp [hz])) (fun z hz => hy z (by simp [hz])) (by simpa using hl) h2
    exact ⟨by rw [e1], e2⟩
theorem oenc_pre {a0 a1 a2 a3 a4 b0 b1 b2 b3 b4 : Int} (ha : oMay a0 a1 a2 a3 a4 = true) (hb : oMay b0 b1 b2 b3 b4 = true) {r t : List Nat} (h : oenc a0 a1 a2 a3 a4 ++ r = oenc b0 b1 b2 b3 b4 ++ t) : r = t := by
  have ra := olist_rng ha
  have rb := olist_rng hb
  rw [oenc_list, oenc_list] at h
  have e0 : a0 = b0 := by
    obtain ⟨q, hr⟩ := olist_head a0 a1 a2 a3 a4
    obtain ⟨s, ht⟩ := olist_head b0 b1 b2 b3 b4
    rw [hr, ht] at h
    simp only [encs, List.append_assoc] at h
    exact (enc1 (ra a0 (by rw [hr]; simp)) (rb b0 (by rw [ht]; simp)) h).1
  subst e0
  exact (encs_pre _ _ r t ra rb (olist_len a0 a1 a2 a3 a4 b1 b2 b3 b4) h).2
theorem raw_enc {a0 a1 a2 a3 a4 : Int} (h : oMay a0 a1 a2 a3 a4 = true) : rawM (oenc a0 a1 a2 a3 a4) = (a0, a1, a2, a3, a4, ((oenc a0 a1 a2 a3 a4).length : Int), false) := by
  have hr := oMay_rng h
  have hi := oMay_iff.1 h
  have R : ∀ x : Int, -4398046511104 ≤ x ∧ x ≤ 4398046511104 → rng x := fun x hx => by unfold rng; omega
  unfold rawM
  by_cases c : a0 = 0
  · have e : oenc a0 a1 a2 a3 a4 = enc (zig a0) ++ (enc (zig a1) ++ (enc (zig a2) ++ (enc (zig a3) ++ (enc (zig a4) ++ [])))) := by unfold oenc; rw [if_pos c]; rfl
    generalize oenc a0 a1 a2 a3 a4 = l at e
    have d0 : l.drop (0 : Int).toNat = _ := e
    have l0 := congrArg List.length e
    simp only [List.length_append, List.length_nil] at l0
    have d1 := drop_add (by omega) d0
    have d2 := drop_add (by omega) d1
    have d3 := drop_add (by omega) d2
    have d4 := drop_add (by omega) d3
    dsimp only
    rw [numM_enc (R a0 (by omega)) (by omega) d0]
    dsimp only
    rw [if_pos c, numM_enc (R a1 (by omega)) (by omega) d1]
    dsimp only
    rw [numM_enc (R a2 (by omega)) (by omega) d2]
    dsimp only
    rw [numM_enc (R a3 (by omega)) (by omega) d3]
    dsimp only
    rw [numM_enc (R a4 (by omega)) (by omega) d4]
    simp only [Prod.mk.injEq, true_and, and_true]
    omega
  · by_cases c1 : a0 = 1
    · have e : oenc a0 a1 a2 a3 a4 = enc (zig a0) ++ (enc (zig a1) ++ (enc (zig a3) ++ [])) := by unfold oenc; rw [if_neg c, if_pos c1]; rfl
      generalize oenc a0 a1 a2 a3 a4 = l at e
      have d0 : l.drop (0 : Int).toNat = _ := e
      have l0 := congrArg List.length e
      simp only [List.length_append, List.length_nil] at l0
      have d1 := drop_add (by omega) d0
      have d2 := drop_add (by omega) d1
      dsimp only
      rw [numM_enc (R a0 (by omega)) (by omega) d0]
      dsimp only
      rw [if_neg c, if_pos c1, numM_enc (R a1 (by omega)) (by omega) d1]
      dsimp only
      rw [numM_enc (R a3 (by omega)) (by omega) d2]
      simp only [Prod.mk.injEq, true_and, and_true]
      omega
    · have e : oenc a0 a1 a2 a3 a4 = enc (zig a0) ++ [] := by unfold oenc; rw [if_neg c, if_neg c1]; rfl
      generalize oenc a0 a1 a2 a3 a4 = l at e
      have d0 : l.drop (0 : Int).toNat = _ := e
      have l0 := congrArg List.length e
      simp only [List.length_append, List.length_nil] at l0
      dsimp only
      rw [numM_enc (R a0 (by omega)) (by omega) d0]
      dsimp only
      rw [if_neg c, if_neg c1]
      simp only [Prod.mk.injEq, true_and, and_true]
      omega
theorem getM_enc {a0 a1 a2 a3 a4 : Int} (h : oMay a0 a1 a2 a3 a4 = true) : getM (oenc a0 a1 a2 a3 a4) = (a0, a1, a2, a3, a4, 0) := by
  unfold getM
  rw [raw_enc h]
  dsimp only
  rw [if_pos ⟨rfl, rfl, h⟩]
theorem raw_inv {l : List Nat} (hb : ∀ y ∈ l, y < 256) (h1 : (rawM l).2.2.2.2.2.2 = false) (h2 : (rawM l).2.2.2.2.2.1 = l.length) : l = oenc (rawM l).1 (rawM l).2.1 (rawM l).2.2.1 (rawM l).2.2.2.1 (rawM l).2.2.2.2.1 := by
  unfold rawM at h1 h2 ⊢
  dsimp only at h1 h2 ⊢
  by_cases c : (numM l 0 false).1 = 0
  · simp only [if_pos c] at h1 h2 ⊢
    have z0 : (numM l 0 false).2.2 = false → 0 ≤ (numM l 0 false).2.1 := fun z => (numM_inv hb (by omega) z).2.2.1
    generalize ht0 : numM l 0 false = t0 at *
    obtain ⟨n0, p0, b0⟩ := t0
    cases b0 with
    | true => simp only [numM_true] at h1; exact absurd h1 (by decide)
    | false =>
      have i0 := numM_inv hb (p := 0) (b := false) (by omega) (by rw [ht0])
      rw [ht0] at i0
      have q0 := i0.2.2.1
      dsimp only at *
      generalize ht1 : numM l p0 false = t1 at *
      obtain ⟨n1, p1, b1⟩ := t1
      cases b1 with
      | true => simp only [numM_true] at h1; exact absurd h1 (by decide)
      | false =>
        have i1 := numM_inv hb (p := p0) (b := false) q0 (by rw [ht1])
        rw [ht1] at i1
        have q1 := i1.2.2.1
        dsimp only at *
        generalize ht2 : numM l p1 false = t2 at *
        obtain ⟨n2, p2, b2⟩ := t2
        cases b2 with
        | true => simp only [numM_true] at h1; exact absurd h1 (by decide)
        | false =>
          have i2 := numM_inv hb (p := p1) (b := false) q1 (by rw [ht2])
          rw [ht2] at i2
          have q2 := i2.2.2.1
          dsimp only at *
          generalize ht3 : numM l p2 false = t3 at *
          obtain ⟨n3, p3, b3⟩ := t3
          cases b3 with
          | true => simp only [numM_true] at h1; exact absurd h1 (by decide)
          | false =>
            have i3 := numM_inv hb (p := p2) (b := false) q2 (by rw [ht3])
            rw [ht3] at i3
            have q3 := i3.2.2.1
            dsimp only at *
            have i4 := numM_inv hb (p := p3) (b := false) q3 h1
            generalize ht4 : numM l p3 false = t4 at *
            obtain ⟨n4, p4, b4⟩ := t4
            dsimp only at *
            have e0 := i0.2.2.2
            have dn : l.drop p4.toNat = [] := List.drop_eq_nil_of_le (by omega)
            rw [i1.2.2.2, i2.2.2.2, i3.2.2.2, i4.2.2.2, dn] at e0
            unfold oenc
            rw [if_pos c]
            exact e0
  · simp only [if_neg c] at h1 h2 ⊢
    by_cases c1 : (numM l 0 false).1 = 1
    · simp only [if_pos c1] at h1 h2 ⊢
      generalize ht0 : numM l 0 false = t0 at *
      obtain ⟨n0, p0, b0⟩ := t0
      cases b0 with
      | true => simp only [numM_true] at h1; exact absurd h1 (by decide)
      | false =>
        have i0 := numM_inv hb (p := 0) (b := false) (by omega) (by rw [ht0])
        rw [ht0] at i0
        have q0 := i0.2.2.1
        dsimp only at *
        generalize ht1 : numM l p0 false = t1 at *
        obtain ⟨n1, p1, b1⟩ := t1
        cases b1 with
        | true => simp only [numM_true] at h1; exact absurd h1 (by decide)
        | false =>
          have i1 := numM_inv hb (p := p0) (b := false) q0 (by rw [ht1])
          rw [ht1] at i1
          have q1 := i1.2.2.1
          dsimp only at *
          have i2 := numM_inv hb (p := p1) (b := false) q1 h1
          generalize ht2 : numM l p1 false = t2 at *
          obtain ⟨n2, p2, b2⟩ := t2
          dsimp only at *
          have e0 := i0.2.2.2
          have dn : l.drop p2.toNat = [] := List.drop_eq_nil_of_le (by omega)
          rw [i1.2.2.2, i2.2.2.2, dn] at e0
          unfold oenc
          rw [if_neg c, if_pos c1]
          exact e0
    · simp only [if_neg c1] at h1 h2 ⊢
      have i0 := numM_inv hb (p := 0) (b := false) (by omega) h1
      have e0 := i0.2.2.2
      have dn : l.drop (numM l 0 false).2.1.toNat = [] := List.drop_eq_nil_of_le (by omega)
      rw [dn] at e0
      unfold oenc
      rw [if_neg c, if_neg c1]
      exact e0
theorem getM_cases (l : List Nat) (hb : ∀ y ∈ l, y < 256) : getM l = (0, 0, 0, 0, 0, 900) ∨ ∃ a0 a1 a2 a3 a4, oMay a0 a1 a2 a3 a4 = true ∧ l = oenc a0 a1 a2 a3 a4 ∧ getM l = (a0, a1, a2, a3, a4, 0) := by
  have h := raw_inv hb
  unfold getM
  dsimp only
  by_cases c : (rawM l).2.2.2.2.2.2 = false ∧ (rawM l).2.2.2.2.2.1 = l.length ∧ oMay (rawM l).1 (rawM l).2.1 (rawM l).2.2.1 (rawM l).2.2.2.1 (rawM l).2.2.2.2.1 = true
  · rw [if_pos c]; exact .inr ⟨_, _, _, _, _, c.2.2, h c.1 c.2.1, rfl⟩
  · rw [if_neg c]; exact .inl rfl
theorem getM_cut {a0 a1 a2 a3 a4 : Int} (h : oMay a0 a1 a2 a3 a4 = true) (m : Nat) (hm : m < (oenc a0 a1 a2 a3 a4).length) : getM ((oenc a0 a1 a2 a3 a4).take m) = (0, 0, 0, 0, 0, 900) := by
  have hb : ∀ y ∈ oenc a0 a1 a2 a3 a4, y < 256 := by rw [oenc_list]; exact encs_lt _ (olist_rng h)
  rcases getM_cases ((oenc a0 a1 a2 a3 a4).take m) (fun y hy => hb y (List.mem_of_mem_take hy)) with e | ⟨b0, b1, b2, b3, b4, hb2, e, _⟩
  · exact e
  · have ht := List.take_append_drop m (oenc a0 a1 a2 a3 a4)
    rw [e] at ht
    have := oenc_pre hb2 h (t := []) (by rw [ht, List.append_nil])
    have hl := congrArg List.length this
    rw [List.length_drop, List.length_nil] at hl
    omega

/-! ### crc -/
theorem xor_nat (a b : Nat) (ha : a < 9223372036854775808) (hb : b < 9223372036854775808) : Go.bits .xor .i64 (a : Int) (b : Int) = ((a ^^^ b : Nat) : Int) := by
  show IntKind.i64.wrap (((BitVec.ofInt 64 (a : Int) ^^^ BitVec.ofInt 64 (b : Int)).toNat : Nat) : Int) = _
  rw [BitVec.toNat_xor, bv_nat a (by omega), bv_nat b (by omega)]
  exact wrap_i64_nat _ (Nat.xor_lt_two_pow (n := 63) ha hb)
theorem and_bit (x i : Nat) : x &&& 2 ^ i = if x.testBit i then 2 ^ i else 0 := by
  apply Nat.eq_of_testBit_eq
  intro j
  rw [Nat.testBit_and, Nat.testBit_two_pow]
  by_cases e : i = j
  · subst e
    cases h : x.testBit i <;> simp
  · cases h : x.testBit i <;> simp [e]
theorem and_hi (x : Nat) (hx : x < 65536) : Go.bits .and .i64 (x : Int) 32768 = if x < 32768 then 0 else 32768 := by
  have e := (bits_nat .i64 63 (by decide) (fun n h0 h1 => by rw [show (2 : Int) ^ 63 = 9223372036854775808 from by decide] at h1; rw [IntKind.wrap_i64]; omega) x 32768 (by omega) (by decide)).1
  have e2 := and_bit x 15
  rw [Nat.testBit_eq_decide_div_mod_eq] at e2
  rw [show (2 : Nat) ^ 15 = 32768 from by decide] at e2
  have e3 : Go.bits .and .i64 (x : Int) 32768 = ((x &&& 32768 : Nat) : Int) := e
  rw [e3, e2]
  by_cases h : x < 32768
  · rw [if_pos h, if_neg (by simp; omega)]; rfl
  · rw [if_neg h, if_pos (by simp; omega)]; rfl
/-- One round of the sum. -/
def rnd (x : Nat) : Nat := if x < 32768 then 2 * x else (2 * x - 65536) ^^^ 4129
def rounds : Nat → Nat → Nat
  | 0, x => x
  | n + 1, x => rounds n (rnd x)
def stp (x b : Nat) : Nat := rounds 8 (x ^^^ (b * 256))
def crcFrom (x : Nat) (l : List Nat) : Nat := l.foldl stp x
def crc0 : Nat := 65535
theorem crc0_lt : crc0 < 65536 := by unfold crc0; omega
attribute [local irreducible] crc0
def crc (l : List Nat) : Nat := crcFrom crc0 l
theorem rnd_lt {x : Nat} (h : x < 65536) : rnd x < 65536 := by
  unfold rnd
  by_cases c : x < 32768
  · rw [if_pos c]; omega
  · rw [if_neg c]; exact Nat.xor_lt_two_pow (n := 16) (by omega) (by decide)
theorem rounds_lt (n : Nat) : ∀ {x : Nat}, x < 65536 → rounds n x < 65536 := by
  induction n with
  | zero => intro x h; exact h
  | succ n ih => intro x h; exact ih (rnd_lt h)
theorem mix_lt {x b : Nat} (h : x < 65536) (hb : b < 256) : x ^^^ (b * 256) < 65536 := Nat.xor_lt_two_pow (n := 16) h (by show b * 256 < 65536; omega)
theorem stp_lt {x b : Nat} (h : x < 65536) (hb : b < 256) : stp x b < 65536 := by unfold stp; exact rounds_lt 8 (mix_lt h hb)
theorem crcFrom_nil (x : Nat) : crcFrom x [] = x := rfl
theorem crcFrom_cons (x b : Nat) (r : List Nat) : crcFrom x (b :: r) = crcFrom (stp x b) r := by unfold crcFrom; rw [List.foldl_cons]
attribute [local irreducible] stp rounds
theorem crcFrom_app (x : Nat) (l r : List Nat) : crcFrom x (l ++ r) = crcFrom (crcFrom x l) r := by unfold crcFrom; rw [List.foldl_append]
attribute [local irreducible] crcFrom
theorem crcFrom_lt (l : List Nat) : ∀ {x : Nat}, x < 65536 → (∀ b ∈ l, b < 256) → crcFrom x l < 65536 := by
  induction l with
  | nil => intro x h _; rw [crcFrom_nil]; exact h
  | cons b r ih => intro x h hb; rw [crcFrom_cons]; exact ih (stp_lt h (hb b (List.mem_cons_self ..))) (fun c hc => hb c (List.mem_cons_of_mem _ hc))
theorem crc_lt (l : List Nat) (hb : ∀ b ∈ l, b < 256) : crc l < 65536 := crcFrom_lt l crc0_lt hb
theorem xor_can {a b c : Nat} (h : a ^^^ c = b ^^^ c) : a = b := by
  have : a ^^^ c ^^^ c = b ^^^ c ^^^ c := by rw [h]
  rwa [Nat.xor_assoc, Nat.xor_assoc, Nat.xor_self, Nat.xor_zero, Nat.xor_zero] at this
theorem xor_odd (a : Nat) (h : a % 2 = 0) : (a ^^^ 4129) % 2 = 1 := by
  have := Nat.xor_mod_two_pow (a := a) (b := 4129) (n := 1)
  rw [show (2 : Nat) ^ 1 = 2 from rfl, h] at this
  rw [this]; decide
theorem rnd_inj {x y : Nat} (hx : x < 65536) (hy : y < 65536) (h : rnd x = rnd y) : x = y := by
  unfold rnd at h
  by_cases c : x < 32768
  · rw [if_pos c] at h
    by_cases d : y < 32768
    · rw [if_pos d] at h; omega
    · rw [if_neg d] at h
      have := xor_odd (2 * y - 65536) (by omega)
      omega
  · rw [if_neg c] at h
    by_cases d : y < 32768
    · rw [if_pos d] at h
      have := xor_odd (2 * x - 65536) (by omega)
      omega
    · rw [if_neg d] at h
      have := xor_can h
      omega
theorem rounds_inj (n : Nat) : ∀ {x y : Nat}, x < 65536 → y < 65536 → rounds n x = rounds n y → x = y := by
  induction n with
  | zero => intro x y _ _ h; rw [rounds, rounds] at h; exact h
  | succ n ih => intro x y hx hy h; rw [rounds, rounds] at h; exact rnd_inj hx hy (ih (rnd_lt hx) (rnd_lt hy) h)
theorem stp_inj {x y b : Nat} (hx : x < 65536) (hy : y < 65536) (hb : b < 256) (h : stp x b = stp y b) : x = y := by
  unfold stp at h
  exact xor_can (rounds_inj 8 (mix_lt hx hb) (mix_lt hy hb) h)
theorem stp_inj' {x b c : Nat} (hx : x < 65536) (hb : b < 256) (hc : c < 256) (h : stp x b = stp x c) : b = c := by
  unfold stp at h
  have e := rounds_inj 8 (mix_lt hx hb) (mix_lt hx hc) h
  rw [Nat.xor_comm x, Nat.xor_comm x] at e
  have := xor_can e
  omega
theorem crcFrom_inj (l : List Nat) : ∀ {x y : Nat}, x < 65536 → y < 65536 → (∀ b ∈ l, b < 256) → crcFrom x l = crcFrom y l → x = y := by
  induction l with
  | nil => intro x y _ _ _ h; rw [crcFrom_nil, crcFrom_nil] at h; exact h
  | cons b r ih =>
    intro x y hx hy hb h
    rw [crcFrom_cons, crcFrom_cons] at h
    have b1 := hb b (List.mem_cons_self ..)
    exact stp_inj hx hy b1 (ih (stp_lt hx b1) (stp_lt hy b1) (fun c hc => hb c (List.mem_cons_of_mem _ hc)) h)
/-- One byte turned turns the sum. -/
theorem crc_turn (l r : List Nat) (b c : Nat) (hl : ∀ x ∈ l, x < 256) (hr : ∀ x ∈ r, x < 256) (hb : b < 256) (hc : c < 256) (h : crc (l ++ b :: r) = crc (l ++ c :: r)) : b = c := by
  unfold crc at h
  rw [crcFrom_app, crcFrom_app] at h
  have hx := crcFrom_lt l crc0_lt hl
  rw [crcFrom_cons, crcFrom_cons] at h
  exact stp_inj' hx hb hc (crcFrom_inj r (stp_lt hx hb) (stp_lt hx hc) hr h)

/-! ### fsum -/
theorem w_dbl (x : Nat) (h : x < 65536) : wrap64 ((x : Int) * 2) = ((2 * x : Nat) : Int) := by
  rw [wrap64_id (by omega) (by omega)]; omega
theorem w_tm (x : Nat) : Int.tmod ((x : Nat) : Int) 65536 = ((x % 65536 : Nat) : Int) := by
  rw [Int.tmod_eq_emod_of_nonneg (by omega)]; omega
theorem w_by (b : Nat) (h : b < 256) : wrap64 (wrap64 (b : Int) * 256) = ((b * 256 : Nat) : Int) := by
  rw [wrap64_id (n := (b : Int)) (by omega) (by omega), wrap64_id (by omega) (by omega)]; omega
theorem w_up (i : Nat) (h : i ≤ 4611686018427387904) : wrap64 ((i : Int) + 1) = ((i + 1 : Nat) : Int) := by
  rw [wrap64_id (by omega) (by omega)]; omega
theorem rounds_zero (x : Nat) : rounds 0 x = x := by rw [rounds]
theorem rounds_succ (n x : Nat) : rounds (n + 1) x = rounds n (rnd x) := by rw [rounds]
theorem rnd_lo {x : Nat} (h : x < 32768) : rnd x = 2 * x := by unfold rnd; rw [if_pos h]
theorem rnd_hi {x : Nat} (h : ¬ x < 32768) : rnd x = (2 * x - 65536) ^^^ 4129 := by unfold rnd; rw [if_neg h]
theorem stp_def (x b : Nat) : stp x b = rounds 8 (x ^^^ (b * 256)) := by unfold stp; rfl
theorem sum_l1 (s : ByteArray) (m i : Int) (r : Int) (n : Nat) : ∀ x : Nat, n ≤ 8 → x < 65536 → Ev (fun k => frame_Sum.l0 k s ((rounds n x : Nat) : Int) m (wrap64 (i + 1))) r →
    Ev (fun k => frame_Sum.l1 k s ((x : Nat) : Int) m i ((8 - n : Nat) : Int)) r := by
  induction n with
  | zero =>
    intro x h8 hx h
    rw [rounds_zero] at h
    refine Ev.step (fun k => ?_) h
    simp only [frame_Sum.l1]
    rw [if_neg (by omega)]
  | succ n ih =>
    intro x h8 hx h
    rw [rounds_succ] at h
    have hr := rnd_lt hx
    refine Ev.step (fun k => ?_) (ih (rnd x) (by omega) hr h)
    have q1 : ((8 - (n + 1) : Nat) : Int) < 8 := by omega
    have q2 : 8 - (n + 1) ≤ 4611686018427387904 := by omega
    have q3 : 8 - (n + 1) + 1 = 8 - n := by omega
    simp only [frame_Sum.l1]
    rw [if_pos q1, and_hi x hx, w_dbl x hx, w_tm, w_up _ q2, q3]
    by_cases c : x < 32768
    · rw [if_pos c, if_pos rfl, rnd_lo c]
      have q4 : 2 * x % 65536 = 2 * x := by omega
      rw [q4]
    · have q4 : 2 * x % 65536 = 2 * x - 65536 := by omega
      rw [if_neg c, if_neg (by decide), q4, show (4129 : Int) = ((4129 : Nat) : Int) from rfl, xor_nat _ _ (by omega) (by decide), rnd_hi c]
theorem sum_l0 (s : ByteArray) (hs : s.size ≤ 4611686018427387904) (d : Nat) : ∀ (x i : Nat), s.size - i = d → i ≤ s.size → x < 65536 →
    Ev (fun k => frame_Sum.l0 k s ((x : Nat) : Int) (s.size : Int) ((i : Nat) : Int)) ((crcFrom x ((L s).drop i) : Nat) : Int) := by
  have hlen := L_len s
  induction d with
  | zero =>
    intro x i hd hi hx
    have e : (L s).drop i = [] := List.drop_eq_nil_of_le (by omega)
    rw [e, crcFrom_nil]
    refine Ev.step (fun k => ?_) (Ev.now _)
    simp only [frame_Sum.l0]
    rw [if_neg (by omega)]
  | succ d ih =>
    intro x i hd hi hx
    have hlt : i < (L s).length := by omega
    have q1 : ((i : Nat) : Int) < (s.size : Int) := by omega
    have q2 : 0 ≤ ((i : Nat) : Int) := by omega
    have q3 : i ≤ 4611686018427387904 := by omega
    have q4 : s.size - (i + 1) = d := by omega
    have q5 : i + 1 ≤ s.size := by omega
    have hb2 : (L s)[i] < 256 := L_lt s _ (List.getElem_mem hlt)
    have hm := mix_lt hx hb2
    have e : (L s).drop i = (L s)[i] :: (L s).drop (i + 1) := List.drop_eq_getElem_cons hlt
    rw [e, crcFrom_cons]
    have h := ih (stp x (L s)[i]) (i + 1) q4 q5 (stp_lt hx hb2)
    rw [← w_up i q3] at h
    have h2 := sum_l1 s (s.size : Int) ((i : Nat) : Int) _ 8 (x ^^^ ((L s)[i] * 256)) (Nat.le_refl _) hm (by rw [← stp_def]; exact h)
    refine Ev.step (fun k => ?_) h2
    simp only [frame_Sum.l0]
    have hb : bt s ((i : Nat) : Int) = (((L s)[i] : Nat) : Int) := by
      rw [bt_L, Int.toNat_natCast, List.getD_eq_getElem?_getD, List.getElem?_eq_getElem hlt]; rfl
    rw [if_pos q1, if_pos q2, if_pos q1, hb, w_by _ hb2, xor_nat _ _ (by omega) (by omega)]
    rfl
theorem sum_ev (s : ByteArray) (hs : s.size ≤ 4611686018427387904) : Ev (fun k => frame_Sum.f k s) ((crc (L s) : Nat) : Int) := by
  have h := sum_l0 s hs s.size crc0 0 (by omega) (by omega) crc0_lt
  rw [List.drop_zero] at h
  refine Ev.congr (fun k => ?_) h
  unfold frame_Sum.f
  congr 1
  unfold crc0; rfl

/-! ### fget -/
theorem S_L (b : ByteArray) : S (L b) = b := L_inj (L_S (L_lt b))
def two (x : Nat) : List Nat := [x / 256 % 256, x % 256]
theorem two_lt (x : Nat) : ∀ y ∈ two x, y < 256 := by
  intro y hy
  simp [two] at hy
  rcases hy with rfl | rfl <;> omega
theorem two_eq (x : Nat) : frame_Two.f ((x : Nat) : Int) = some (S (two x)) := by
  unfold frame_Two.f S two
  simp
def getF (l : List Nat) (p : Int) : List Nat × Int × Int :=
  if (0 < l.length ∧ l.getD 0 0 ≠ 181) ∨ (1 < l.length ∧ (l.getD 1 0 < 1 ∨ 60 < l.getD 1 0)) then ([], 0, 800)
  else if l.length < 2 ∨ l.length < l.getD 1 0 + 4 then ([], 0, 801)
  else if two (crc ((l.take (l.getD 1 0 + 2)).drop 1)) = (l.take (l.getD 1 0 + 4)).drop (l.getD 1 0 + 2) then ((l.take (l.getD 1 0 + 2)).drop 2, p + ((l.getD 1 0 + 4 : Nat) : Int), 0)
  else ([], 0, 800)
theorem S_nil : S [] = (⟨#[]⟩ : ByteArray) := rfl
theorem w_end (b : Nat) (h : b < 256) : wrap64 (2 + wrap64 (b : Int)) = ((b + 2 : Nat) : Int) := by
  rw [wrap64_id (n := (b : Int)) (by omega) (by omega), wrap64_id (by omega) (by omega)]; omega
theorem w_end2 (b : Nat) (h : b < 256) : wrap64 (((b + 2 : Nat) : Int) + 2) = ((b + 4 : Nat) : Int) := by
  rw [wrap64_id (by omega) (by omega)]; omega
theorem w_to (p b : Nat) (hp : p ≤ 4611686018427387904) (h : b < 256) : wrap64 (wrap64 ((p : Int) + ((b + 2 : Nat) : Int)) + 2) = (p : Int) + ((b + 4 : Nat) : Int) := by
  rw [wrap64_id (n := (p : Int) + ((b + 2 : Nat) : Int)) (by omega) (by omega), wrap64_id (by omega) (by omega)]; omega
theorem get_j2t (p : Int) (r : ByteArray) : Ev (fun k => frame_Get.j2 k p r true) (S [], 0, 801) := by
  refine Ev.step (fun k => ?_) (Ev.now _)
  simp only [frame_Get.j2, if_true]; rw [S_nil]
theorem get_j1t (p : Int) (r : ByteArray) : Ev (fun k => frame_Get.j1 k p r true) (S [], 0, 800) := by
  refine Ev.step (fun k => ?_) (Ev.now _)
  simp only [frame_Get.j1, if_true]; rw [S_nil]
theorem get_j2f (p : Nat) (r : ByteArray) (b : Nat) (hp : p ≤ 4611686018427387904) (hr : r.size ≤ 4611686018427387904) (h1 : 1 < r.size) (hb : bt r 1 = (b : Int)) (hb2 : b < 256) (h2 : b + 4 ≤ r.size) :
    Ev (fun k => frame_Get.j2 k (p : Int) r false) (if two (crc (((L r).take (b + 2)).drop 1)) = ((L r).take (b + 4)).drop (b + 2) then (S (((L r).take (b + 2)).drop 2), (p : Int) + ((b + 4 : Nat) : Int), 0) else (S [], 0, 800)) := by
  have hl := L_len r
  have q1 : (1 : Int) < (r.size : Int) := by omega
  have q2 : (1 : Int) ≤ ((b + 2 : Nat) : Int) := by omega
  have q3 : ((b + 2 : Nat) : Int) ≤ (r.size : Int) := by omega
  have q4 : (0 : Int) ≤ ((b + 2 : Nat) : Int) := by omega
  have q5 : ((b + 2 : Nat) : Int) ≤ ((b + 4 : Nat) : Int) := by omega
  have q6 : ((b + 4 : Nat) : Int) ≤ (r.size : Int) := by omega
  have q7 : (2 : Int) ≤ ((b + 2 : Nat) : Int) := by omega
  have hsz : (r.extract 1 (b + 2)).size ≤ 4611686018427387904 := by
    rw [← L_len, L_extract, List.length_drop, List.length_take]; omega
  have hsum := sum_ev (r.extract 1 (b + 2)) hsz
  rw [L_extract] at hsum
  have hx : ∀ n m, r.extract n m = S (((L r).take m).drop n) := fun n m => by rw [← L_extract, S_L]
  have hlt : ∀ n m, ∀ y ∈ ((L r).take m).drop n, y < 256 := fun n m y hy => L_lt r y (List.mem_of_mem_take (List.mem_of_mem_drop hy))
  generalize crc (((L r).take (b + 2)).drop 1) = c at *
  refine Ev.step (f := fun k => (frame_Sum.f k (r.extract 1 (b + 2))).bind fun t => (frame_Two.f t).bind fun u => if u.toList = (r.extract (b + 2) (b + 4)).toList then some (r.extract 2 (b + 2), (p : Int) + ((b + 4 : Nat) : Int), 0) else some ((⟨#[]⟩ : ByteArray), 0, 800)) (fun k => ?_) ?_
  · simp only [frame_Get.j2]
    rw [hb, w_end b hb2, w_end2 b hb2, w_to p b hp hb2, if_neg (by decide), if_pos q1, if_pos q2, if_pos q3]
    simp only [if_pos q4, if_pos q5, if_pos q6, if_pos q7, Int.toNat_natCast]
  · refine Ev.bind hsum ?_
    refine Ev.congr (f := fun _ => if (S (two c)).toList = (r.extract (b + 2) (b + 4)).toList then some (r.extract 2 (b + 2), (p : Int) + ((b + 4 : Nat) : Int), 0) else some ((⟨#[]⟩ : ByteArray), 0, 800)) (fun k => by rw [two_eq]; rfl) ?_
    have hiff : ((S (two c)).toList = (r.extract (b + 2) (b + 4)).toList) ↔ two c = ((L r).take (b + 4)).drop (b + 2) := by
      rw [toList_lit, L_toList, L_S (two_lt c), L_extract]
    by_cases e : two c = ((L r).take (b + 4)).drop (b + 2)
    · rw [if_pos e, ← hx 2 (b + 2)]
      exact Ev.congr (fun k => by rw [if_pos (hiff.2 e)]) (Ev.now _)
    · rw [if_neg e]
      exact Ev.congr (fun k => by rw [if_neg (fun h => e (hiff.1 h)), S_nil]) (Ev.now _)
theorem get_ev' (s : ByteArray) (p : Nat) (hp : p ≤ s.size) (hs : s.size ≤ 4611686018427387904) :
    Ev (fun k => frame_Get.f k s (p : Int)) (S (getF ((L s).drop p) (p : Int)).1, (getF ((L s).drop p) (p : Int)).2.1, (getF ((L s).drop p) (p : Int)).2.2) := by
  have hr : L (s.extract p s.size) = (L s).drop p := by rw [L_extract, List.take_of_length_le (by rw [L_len]; omega)]
  have hz : (s.extract p s.size).size ≤ 4611686018427387904 := by rw [← L_len, hr, List.length_drop, L_len]; omega
  have hbt : ∀ i : Int, bt (s.extract p s.size) i = ((((L s).drop p).getD i.toNat 0 : Nat) : Int) := fun i => by rw [bt_L, hr]
  have hlt : ∀ y ∈ (L s).drop p, y < 256 := fun y hy => L_lt s y (List.mem_of_mem_drop hy)
  have hsz : (s.extract p s.size).size = ((L s).drop p).length := by rw [← L_len, hr]
  have hg1 : ((L s).drop p).getD 1 0 < 256 := by
    rw [List.getD_eq_getElem?_getD]
    by_cases c : 1 < ((L s).drop p).length
    · rw [List.getElem?_eq_getElem c]; exact hlt _ (List.getElem_mem c)
    · rw [List.getElem?_eq_none (by omega)]; decide
  have q1 : ¬ ((p : Int) < 0) := by omega
  have q2 : ¬ ((p : Int) > (s.size : Int)) := by omega
  have q3 : (0 : Int) ≤ (p : Int) := by omega
  have q4 : (p : Int) ≤ (s.size : Int) := by omega
  have q5 : p ≤ 4611686018427387904 := by omega
  have h0 : ∀ k, frame_Get.f k s (p : Int) = frame_Get.j0 k s (p : Int) false := fun k => by
    unfold frame_Get.f; rw [if_neg q1, decide_eq_false q2]
  refine Ev.congr h0 ?_
  have b0 : bt (s.extract p s.size) 0 = ((((L s).drop p).getD 0 0 : Nat) : Int) := hbt 0
  have b1 : bt (s.extract p s.size) 1 = ((((L s).drop p).getD 1 0 : Nat) : Int) := hbt 1
  clear hbt
  have hj2 := fun h1 h2 => get_j2f p (s.extract p s.size) (((L s).drop p).getD 1 0) q5 hz h1 b1 hg1 h2
  rw [hr] at hj2
  have hj0 : ∀ k, frame_Get.j0 (k + 1) s (p : Int) false = _ := fun k => by
    simp only [frame_Get.j0]
    rw [if_neg (by decide), if_pos q3, if_pos q4, Int.toNat_natCast]
  generalize s.extract p s.size = r at *
  generalize (L s).drop p = l at *
  have hj1f : ¬ (l.length < 2 ∨ l.length < l.getD 1 0 + 4) → Ev (fun k => frame_Get.j1 k (p : Int) r false) (if two (crc ((l.take (l.getD 1 0 + 2)).drop 1)) = (l.take (l.getD 1 0 + 4)).drop (l.getD 1 0 + 2) then (S ((l.take (l.getD 1 0 + 2)).drop 2), (p : Int) + ((l.getD 1 0 + 4 : Nat) : Int), 0) else (S [], 0, 800)) := by
    intro h
    have z1 : 1 < r.size := by omega
    have z2 : l.getD 1 0 + 4 ≤ r.size := by omega
    have z3 : ¬ ((r.size : Int) < 2) := by omega
    have z4 : (1 : Int) < (r.size : Int) := by omega
    have z5 : ¬ ((r.size : Int) < ((l.getD 1 0 + 4 : Nat) : Int)) := by omega
    refine Ev.step (fun k => ?_) (hj2 z1 z2)
    simp only [frame_Get.j1]
    rw [if_neg (by decide), if_neg z3, if_pos z4, b1, w_end _ hg1, w_end2 _ hg1, decide_eq_false z5]
  have hj1c : (l.length < 2 ∨ l.length < l.getD 1 0 + 4) → Ev (fun k => frame_Get.j1 k (p : Int) r false) (S [], 0, 801) := by
    intro h
    refine Ev.step (fun k => ?_) (get_j2t (p : Int) r)
    simp only [frame_Get.j1]
    by_cases z : (r.size : Int) < 2
    · rw [if_neg (by decide), if_pos z]
    · have z4 : (1 : Int) < (r.size : Int) := by omega
      have z5 : ((r.size : Int) < ((l.getD 1 0 + 4 : Nat) : Int)) := by omega
      rw [if_neg (by decide), if_neg z, if_pos z4, b1, w_end _ hg1, w_end2 _ hg1, decide_eq_true z5]
  unfold getF
  generalize hx : l.getD 0 0 = x at *
  generalize hb : l.getD 1 0 = b at *
  by_cases c1 : (0 < l.length ∧ x ≠ 181) ∨ (1 < l.length ∧ (b < 1 ∨ 60 < b))
  · rw [if_pos c1]
    refine Ev.step (fun k => ?_) (get_j1t (p : Int) r)
    rw [hj0, b0, b1]
    by_cases z0 : (r.size : Int) > 0
    · rw [if_pos z0, if_pos z0]
      by_cases z1 : (x : Int) = 181
      · have w1 : (r.size : Int) > 1 := by omega
        rw [if_pos z1, if_pos w1, if_pos w1]
        by_cases z2 : (b : Int) < 1
        · rw [if_pos z2]
        · rw [if_neg z2, decide_eq_true (by omega)]
      · rw [if_neg z1]
    · exfalso; omega
  · rw [if_neg c1]
    have hmid : Ev (fun k => frame_Get.j1 k (p : Int) r false) (S (if l.length < 2 ∨ l.length < b + 4 then (([] : List Nat), (0 : Int), (801 : Int)) else if two (crc ((l.take (b + 2)).drop 1)) = (l.take (b + 4)).drop (b + 2) then ((l.take (b + 2)).drop 2, (p : Int) + ((b + 4 : Nat) : Int), 0) else ([], 0, 800)).1, (if l.length < 2 ∨ l.length < b + 4 then (([] : List Nat), (0 : Int), (801 : Int)) else if two (crc ((l.take (b + 2)).drop 1)) = (l.take (b + 4)).drop (b + 2) then ((l.take (b + 2)).drop 2, (p : Int) + ((b + 4 : Nat) : Int), 0) else ([], 0, 800)).2.1, (if l.length < 2 ∨ l.length < b + 4 then (([] : List Nat), (0 : Int), (801 : Int)) else if two (crc ((l.take (b + 2)).drop 1)) = (l.take (b + 4)).drop (b + 2) then ((l.take (b + 2)).drop 2, (p : Int) + ((b + 4 : Nat) : Int), 0) else ([], 0, 800)).2.2) := by
      by_cases c2 : l.length < 2 ∨ l.length < b + 4
      · rw [if_pos c2]; exact hj1c c2
      · rw [if_neg c2]
        have h := hj1f c2
        by_cases c3 : two (crc ((l.take (b + 2)).drop 1)) = (l.take (b + 4)).drop (b + 2)
        · rw [if_pos c3] at h ⊢; exact h
        · rw [if_neg c3] at h ⊢; exact h
    refine Ev.step (fun k => ?_) hmid
    rw [hj0, b0, b1]
    by_cases z0 : (r.size : Int) > 0
    · have z1 : (x : Int) = 181 := by omega
      rw [if_pos z0, if_pos z0, if_pos z1]
      by_cases w1 : (r.size : Int) > 1
      · have z2 : ¬ (b : Int) < 1 := by omega
        rw [if_pos w1, if_pos w1, if_neg z2, decide_eq_false (by omega)]
      · rw [if_neg w1]
    · have w1 : ¬ (r.size : Int) > 1 := by omega
      rw [if_neg z0, if_neg w1]
theorem get_form' (s : ByteArray) (p : Int) (h : p < 0 ∨ (s.size : Int) < p) : Ev (fun k => frame_Get.f k s p) ((⟨#[]⟩ : ByteArray), 0, 800) := by
  have h0 : ∀ k, frame_Get.f k s p = frame_Get.j0 k s p true := fun k => by
    unfold frame_Get.f
    by_cases c : p < 0
    · rw [if_pos c]
    · rw [if_neg c, decide_eq_true (by omega)]
  refine Ev.congr h0 (Ev.step (fun k => ?_) (Ev.now _))
  simp only [frame_Get.j0, if_true]

/-! ### fput -/
def putF (l : List Nat) : List Nat := 181 :: (l.length :: l) ++ two (crc (l.length :: l))
theorem S_one (n : Nat) (h : n ≤ 60) : strOfNums [((n : Nat) : Int) % 256] = S [n] := by
  have e : ((n : Nat) : Int) % 256 = (n : Int) := by omega
  rw [e]; rfl
theorem L_one (n : Nat) (h : n < 256) : L (S [n]) = [n] := L_S (by simp; omega)
theorem S_mark : strOfNums [181] = S [181] := rfl
theorem S_app (a b : List Nat) : S (a ++ b) = S a ++ S b := by
  unfold S strOfNums
  rw [List.map_append, List.map_append]
  apply ByteArray.ext
  simp [ByteArray.data_append]
theorem putF_lt (l : List Nat) (h : ∀ x ∈ l, x < 256) (hn : l.length ≤ 60) : ∀ x ∈ putF l, x < 256 := by
  intro x hx
  unfold putF at hx
  rcases List.mem_append.1 hx with hx | hx
  · rcases List.mem_cons.1 hx with rfl | hx
    · decide
    · rcases List.mem_cons.1 hx with rfl | hx
      · omega
      · exact h x hx
  · exact two_lt _ x hx
theorem put_form (s : ByteArray) (h : s.size < 1 ∨ 60 < s.size) : Ev (fun k => frame_Put.f k s) ((⟨#[]⟩ : ByteArray), 800) := by
  have hj : Ev (fun k => frame_Put.j0 k s true) ((⟨#[]⟩ : ByteArray), 800) := by
    refine Ev.step (fun k => ?_) (Ev.now _)
    simp only [frame_Put.j0, if_true]
  refine Ev.congr (fun k => ?_) hj
  unfold frame_Put.f
  by_cases c : s.toList = []
  · rw [if_pos c]
  · have hn : ¬ s.size < 1 := fun z => c (by rw [toList_lit]; exact List.length_eq_zero_iff.1 (by rw [L_len]; omega))
    rw [if_neg c, decide_eq_true (by omega)]
theorem putF_bytes (s : ByteArray) (h2 : s.size ≤ 60) : (S [181] ++ (S [s.size] ++ s)) ++ S (two (crc (s.size :: L s))) = S (putF (L s)) := by
  apply L_inj
  have hl := L_len s
  rw [L_S (putF_lt (L s) (L_lt s) (by omega)), L_append, L_append, L_append, L_one _ (by decide), L_one _ (by omega), L_S (two_lt _)]
  unfold putF
  rw [hl]; rfl
theorem put_ok (s : ByteArray) (h1 : 1 ≤ s.size) (h2 : s.size ≤ 60) : Ev (fun k => frame_Put.f k s) (S (putF (L s)), 0) := by
  have hl := L_len s
  have hne : ¬ s.toList = [] := by
    rw [toList_lit]; intro z
    have : (L s).length = 0 := by rw [z]; rfl
    omega
  have h0 : ∀ k, frame_Put.f k s = frame_Put.j0 k s false := fun k => by
    unfold frame_Put.f; rw [if_neg hne, decide_eq_false (by omega)]
  refine Ev.congr h0 ?_
  have l1 : (S [s.size]).size = 1 := by rw [← L_len, L_one _ (by omega)]; rfl
  have l2 : (S [181]).size = 1 := by rw [← L_len, L_one _ (by decide)]; rfl
  have e1 : L (S [s.size] ++ s) = s.size :: L s := by rw [L_append, L_one _ (by omega)]; rfl
  have l3 : (S [s.size] ++ s).size = 1 + s.size := by rw [← L_len, e1, List.length_cons, hl]; omega
  have l4 : (S [181] ++ (S [s.size] ++ s)).size = 2 + s.size := by rw [← L_len, L_append, L_one _ (by decide), e1]; simp; omega
  have hsum := sum_ev (S [s.size] ++ s) (by omega)
  rw [e1] at hsum
  have l5 : ∀ c, (S (two c)).size = 2 := fun c => by rw [← L_len, L_S (two_lt c)]; rfl
  have hb := putF_bytes s h2
  generalize crc (s.size :: L s) = c at *
  refine Ev.step (f := fun k => (frame_Sum.f k (S [s.size] ++ s)).bind fun t => (frame_Two.f t).bind fun u => if (S [181] ++ (S [s.size] ++ s)).size + u.size ≤ 9223372036854775807 then some ((S [181] ++ (S [s.size] ++ s)) ++ u, 0) else none) (fun k => ?_) ?_
  · simp only [frame_Put.j0]
    rw [if_neg (by decide), Option.bind_some, S_one _ h2, if_pos (by omega), Option.bind_some, S_mark, if_pos (by omega)]
  · refine Ev.bind hsum ?_
    refine Ev.congr (fun k => ?_) (Ev.now _)
    rw [two_eq, Option.bind_some, if_pos (by rw [l5]; omega), hb]

/-! ### frows -/
theorem getF_row (b t r : List Nat) (n : Nat) (p : Int) (hn : b.length = n) (h1 : 1 ≤ n) (h2 : n ≤ 60) (ht : t.length = 2) :
    getF (181 :: n :: (b ++ (t ++ r))) p = if two (crc (n :: b)) = t then (b, p + ((n + 4 : Nat) : Int), 0) else ([], 0, 800) := by
  have g0 : (181 :: n :: (b ++ (t ++ r))).getD 0 0 = 181 := rfl
  have g1 : (181 :: n :: (b ++ (t ++ r))).getD 1 0 = n := rfl
  have gl : (181 :: n :: (b ++ (t ++ r))).length = n + 4 + r.length := by simp [hn, ht]; omega
  have t1 : (181 :: n :: (b ++ (t ++ r))).take (n + 2) = 181 :: n :: b := by
    rw [List.take_succ_cons, List.take_succ_cons, List.take_left' hn]
  have t2 : ((181 :: n :: (b ++ (t ++ r))).take (n + 4)).drop (n + 2) = t := by
    rw [List.drop_take, List.drop_succ_cons, List.drop_succ_cons, List.drop_left' hn, show n + 4 - (n + 2) = 2 by omega, List.take_left' ht]
  unfold getF
  rw [g0, g1, gl, t1, t2, if_neg (by omega), if_neg (by omega), List.drop_succ_cons, List.drop_zero, List.drop_succ_cons, List.drop_succ_cons, List.drop_zero]
theorem S_L0 (b : ByteArray) : S (L b) = b := L_inj (L_S (L_lt b))
/-- Frames, one behind the other. -/
def rows8 (gs : List ByteArray) : List Nat := gs.flatMap fun g => putF (L g)
theorem rows8_nil : rows8 [] = [] := rfl
theorem rows8_cons (g : ByteArray) (gs : List ByteArray) : rows8 (g :: gs) = putF (L g) ++ rows8 gs := by unfold rows8; rw [List.flatMap_cons]
theorem rows8_app (a b : List ByteArray) : rows8 (a ++ b) = rows8 a ++ rows8 b := by unfold rows8; rw [List.flatMap_append]
def okB (g : ByteArray) : Prop := 1 ≤ g.size ∧ g.size ≤ 60
theorem putF_len (g : ByteArray) : (putF (L g)).length = g.size + 4 := by unfold putF two; simp [L_len]
theorem rows8_lt (gs : List ByteArray) (h : ∀ g ∈ gs, okB g) : ∀ x ∈ rows8 gs, x < 256 := by
  intro x hx
  unfold rows8 at hx
  obtain ⟨g, hg, hx⟩ := List.mem_flatMap.1 hx
  exact putF_lt (L g) (L_lt g) (by rw [L_len]; exact (h g hg).2) x hx
theorem rows8_len (gs : List ByteArray) (h : ∀ g ∈ gs, okB g) : (rows8 gs).length ≤ 64 * gs.length := by
  induction gs with
  | nil => simp [rows8_nil]
  | cons g gs ih =>
    have h1 := h g List.mem_cons_self
    have h2 := ih (fun x hx => h x (List.mem_cons_of_mem _ hx))
    have h3 := h1.2
    rw [rows8_cons, List.length_append, putF_len, List.length_cons]
    omega
theorem getF_rows8 (g : ByteArray) (gs : List ByteArray) (h : okB g) (p : Int) : getF (rows8 (g :: gs)) p = (L g, p + ((g.size + 4 : Nat) : Int), 0) := by
  have hl := L_len g
  have hs : rows8 (g :: gs) = 181 :: g.size :: (L g ++ (two (crc (g.size :: L g)) ++ rows8 gs)) := by
    rw [rows8_cons]; unfold putF; rw [hl]; simp
  rw [hs, getF_row (L g) _ (rows8 gs) g.size p hl h.1 h.2 rfl, if_pos rfl]

/-! ### fback -/
theorem getF_form (b t : List Nat) (n : Nat) (hn : b.length = n) (h1 : 1 ≤ n) (h2 : n ≤ 60) (ht : t.length = 2) :
    getF (181 :: n :: (b ++ t)) ((0 : Nat) : Int) = if two (crc (n :: b)) = t then (b, ((n + 4 : Nat) : Int), 0) else ([], 0, 800) := by
  have g0 : (181 :: n :: (b ++ t)).getD 0 0 = 181 := rfl
  have g1 : (181 :: n :: (b ++ t)).getD 1 0 = n := rfl
  have gl : (181 :: n :: (b ++ t)).length = n + 4 := by simp [hn, ht]
  have t1 : (181 :: n :: (b ++ t)).take (n + 2) = 181 :: n :: b := by
    rw [List.take_succ_cons, List.take_succ_cons, List.take_left' hn]
  have t2 : (181 :: n :: (b ++ t)).take (n + 4) = 181 :: n :: (b ++ t) := List.take_of_length_le (by rw [gl]; exact Nat.le_refl _)
  have d2 : (181 :: n :: (b ++ t)).drop (n + 2) = t := by
    rw [List.drop_succ_cons, List.drop_succ_cons, List.drop_left' hn]
  unfold getF
  rw [g0, g1, gl, t1, t2, d2, if_neg (by omega), if_neg (by omega), List.drop_succ_cons, List.drop_zero, List.drop_succ_cons, List.drop_succ_cons, List.drop_zero]
  simp only [Int.natCast_zero, Int.zero_add]
theorem getF_cut (b t : List Nat) (n C : Nat) (hn : b.length = n) (h1 : 1 ≤ n) (h2 : n ≤ 60) (ht : t.length = 2) (hC : C < n + 4) :
    getF ((181 :: n :: (b ++ t)).take C) ((0 : Nat) : Int) = ([], 0, 801) := by
  match C, hC with
  | 0, _ => rfl
  | 1, _ => rfl
  | C + 2, hC =>
    rw [List.take_succ_cons, List.take_succ_cons]
    have g0 : (181 :: n :: ((b ++ t).take C)).getD 0 0 = 181 := rfl
    have g1 : (181 :: n :: ((b ++ t).take C)).getD 1 0 = n := rfl
    have gl : (181 :: n :: ((b ++ t).take C)).length = C + 2 := by simp [hn, ht]; omega
    unfold getF
    rw [g0, g1, gl, if_neg (by omega), if_pos (by omega)]
theorem two_inj {x y : Nat} (hx : x < 65536) (hy : y < 65536) (h : two x = two y) : x = y := by
  simp only [two, List.cons.injEq, and_true] at h
  omega
theorem set_ne (l : List Nat) (i c : Nat) (hi : i < l.length) (hne : l[i] ≠ c) : l.set i c ≠ l := by
  intro h
  apply hne
  have e : (l.set i c)[i]'(by rw [List.length_set]; exact hi) = c := List.getElem_set_self _
  have e2 : (l.set i c)[i]'(by rw [List.length_set]; exact hi) = l[i] := by simp only [h]
  rw [← e2, e]
theorem crc_set (n : Nat) (b : List Nat) (i c : Nat) (hb : ∀ x ∈ b, x < 256) (hn : n < 256) (hi : i < b.length) (hc : c < 256) (hne : b[i] ≠ c) : crc (n :: b.set i c) ≠ crc (n :: b) := by
  intro h
  have hb2 : b[i] < 256 := hb _ (List.getElem_mem hi)
  rw [List.set_eq_take_append_cons_drop, if_pos hi] at h
  have e : b = b.take i ++ b[i] :: b.drop (i + 1) := by rw [← List.drop_eq_getElem_cons hi, List.take_append_drop]
  have h3 : crc ((n :: b.take i) ++ c :: b.drop (i + 1)) = crc ((n :: b.take i) ++ b[i] :: b.drop (i + 1)) := by
    rw [List.cons_append, List.cons_append, ← e]; exact h
  refine hne (crc_turn _ _ _ _ ?_ (fun x hx => hb x (List.mem_of_mem_drop hx)) hc hb2 h3).symm
  intro x hx
  rcases List.mem_cons.1 hx with rfl | hx
  · exact hn
  · exact hb x (List.mem_of_mem_take hx)
theorem getF_turn (b t : List Nat) (n K c : Nat) (hn : b.length = n) (h1 : 1 ≤ n) (h2 : n ≤ 60) (ht : t = two (crc (n :: b))) (hb : ∀ x ∈ b, x < 256) (hc : c < 256)
    (hK : K < (181 :: n :: (b ++ t)).length) (hK1 : K ≠ 1) (hne : (181 :: n :: (b ++ t))[K] ≠ c) :
    getF ((181 :: n :: (b ++ t)).set K c) ((0 : Nat) : Int) = ([], 0, 800) := by
  have htl : t.length = 2 := by rw [ht]; rfl
  have hlen : (181 :: n :: (b ++ t)).length = n + 4 := by simp [hn, htl]
  match K, hK, hK1, hne with
  | 0, _, _, hne =>
    have hne : 181 ≠ c := hne
    have g0 : ((181 :: n :: (b ++ t)).set 0 c).getD 0 0 = c := rfl
    have gl : ((181 :: n :: (b ++ t)).set 0 c).length = n + 4 := by rw [List.length_set, hlen]
    unfold getF
    rw [g0, gl, if_pos (Or.inl ⟨by omega, fun h => hne h.symm⟩)]
  | K + 2, hK, _, hne =>
    have hne : (b ++ t)[K]'(by simp only [List.length_cons] at hK; omega) ≠ c := hne
    have hs : (181 :: n :: (b ++ t)).set (K + 2) c = 181 :: n :: ((b ++ t).set K c) := rfl
    rw [hs]
    by_cases hk : K < b.length
    · rw [List.set_append_left _ _ hk, getF_form (b.set K c) t n (by rw [List.length_set]; exact hn) h1 h2 htl, if_neg]
      intro h
      rw [ht] at h
      have hne2 : b[K] ≠ c := by rw [List.getElem_append_left hk] at hne; exact hne
      refine crc_set n b K c hb (by omega) hk hc hne2 (two_inj (crc_lt _ ?_) (crc_lt _ ?_) h)
      · intro x hx
        rcases List.mem_cons.1 hx with rfl | hx
        · omega
        · rcases List.mem_or_eq_of_mem_set hx with hx | rfl
          · exact hb x hx
          · exact hc
      · intro x hx
        rcases List.mem_cons.1 hx with rfl | hx
        · omega
        · exact hb x hx
    · have hk2 : K - b.length < t.length := by rw [hlen] at hK; omega
      rw [List.set_append_right _ _ (by omega), getF_form b (t.set (K - b.length) c) n hn h1 h2 (by rw [List.length_set]; exact htl), if_neg]
      intro h
      have hne2 : t[K - b.length] ≠ c := by rw [List.getElem_append_right (by omega)] at hne; exact hne
      refine set_ne t _ c hk2 hne2 ?_
      rw [← h, ← ht]

/-! ### vrefp -/
theorem rput_l0 (n : Nat) : ∀ (u : Nat) (acc : List Nat), u < 128 ^ (n + 1) → u < 18446744073709551616 → acc.length + n + 1 < 140737488355328 → ∀ k, n < k → bourneref1_PutNum.l0 k (u : Int) (acc.map fun n : Nat => (n : Int)) = some (S (acc ++ enc u)) := by
  induction n with
  | zero =>
    intro u acc hu hu2 hl k hk
    obtain ⟨k, rfl⟩ : ∃ m, k = m + 1 := ⟨k - 1, by omega⟩
    have hu : u < 128 := by simpa using hu
    simp only [bourneref1_PutNum.l0]
    rw [if_neg (by omega), List.length_map, if_pos (by omega), enc_small hu]
    rw [show (u : Int) % 256 = (u : Int) by omega]
    simp [S]
  | succ n ih =>
    intro u acc hu hu2 hl k hk
    obtain ⟨k, rfl⟩ : ∃ m, k = m + 1 := ⟨k - 1, by omega⟩
    simp only [bourneref1_PutNum.l0]
    by_cases h : u < 128
    · rw [if_neg (by omega), List.length_map, if_pos (by omega), enc_small h]
      rw [show (u : Int) % 256 = (u : Int) by omega]
      simp [S]
    · rw [if_pos (by omega), List.length_map, if_pos (by omega)]
      have e1 : (u : Int) / 128 = ((u / 128 : Nat) : Int) := by omega
      have e2 : (Go.bits .or .u64 (Go.bits .and .u64 (u : Int) 127) 128) % 256 = ((u % 128 + 128 : Nat) : Int) := by
        rw [and127u u hu2]; exact or128u_all ⟨u % 128, by omega⟩
      rw [e1, e2, enc_big h]
      rw [Nat.pow_succ] at hu
      have := ih (u / 128) (acc ++ [u % 128 + 128]) (by omega) (by omega) (by simp; omega) k (by omega)
      rw [List.map_append] at this
      simp only [List.map_cons, List.map_nil] at this
      rw [this, List.append_assoc]; rfl
theorem rput_ev {x : Int} (h1 : -9223372036854775808 ≤ x) (h2 : x ≤ 9223372036854775807) : ∀ k, 12 ≤ k → bourneref1_PutNum.f k x = some (S (enc (zig x))) := by
  intro k hk
  obtain ⟨k, rfl⟩ : ∃ m, k = m + 1 := ⟨k - 1, by omega⟩
  have hz := zig_lt h1 h2
  have hfin : bourneref1_PutNum.j0 (k + 1) ((zig x : Nat) : Int) = some (S (enc (zig x))) := by
    simp only [bourneref1_PutNum.j0]
    exact rput_l0 9 (zig x) [] (Nat.lt_of_lt_of_le hz (by decide)) hz (by simp) k (by omega)
  unfold bourneref1_PutNum.f
  by_cases h : x < 0
  · have e2 : IntKind.u64.wrap ((IntKind.u64.wrap x) * 2) = (((2 * x + 18446744073709551616).toNat : Nat) : Int) := by rw [wrap_u64, wrap_u64]; omega
    rw [if_pos h, e2, xor64_ones' _ (by omega), ← hfin]
    congr 1; unfold zig; rw [if_neg (by omega)]; omega
  · have e2 : IntKind.u64.wrap ((IntKind.u64.wrap x) * 2) = ((zig x : Nat) : Int) := by unfold zig; rw [if_pos (by omega), wrap_u64, wrap_u64]; omega
    rw [if_neg h, e2, hfin]

/-! ### rput9 -/
theorem rwithin9 (t : Int) : bourneref1_within.f t 1099511627776 = some (decide (-1099511627776 ≤ t ∧ t ≤ 1099511627776)) := by
  unfold bourneref1_within.f
  rw [wrap64_id (n := -1099511627776) (by omega) (by omega)]
  by_cases c : t ≥ -1099511627776
  · rw [if_pos c]; exact congrArg some (decide_eq_decide.2 (by omega))
  · rw [if_neg c, decide_eq_false (by omega)]
theorem ropMay_eq (k : Nat) (a0 a1 a2 a3 a4 : Int) : bourneref1_OpMay.f (k + 1) a0 a1 a2 a3 a4 = some (oMay a0 a1 a2 a3 a4) := by
  have key : ∀ b : Bool, (b = true ↔ (a0 = 0 ∧ 0 ≤ a1 ∧ a1 < 8 ∧ 0 ≤ a2 ∧ a2 ≤ 1048575 ∧ -1099511627776 ≤ a3 ∧ a3 ≤ 1099511627776 ∧ -1099511627776 ≤ a4 ∧ a4 ≤ 1099511627776) ∨ (a0 = 1 ∧ 0 ≤ a1 ∧ a1 < 8 ∧ -4398046511104 < a3 ∧ a3 ≤ 4398046511104 ∧ a2 = 0 ∧ a4 = 0) ∨ (a0 = 2 ∧ a1 = 0 ∧ a2 = 0 ∧ a3 = 0 ∧ a4 = 0)) → some b = some (oMay a0 a1 a2 a3 a4) :=
    fun b hb => congrArg some (Bool.eq_iff_iff.2 (hb.trans oMay_iff.symm))
  have fin : ∀ x3 : Bool, (x3 = true ↔ (0 ≤ a1 ∧ a1 < 8)) → bourneref1_OpMay.j0 (k + 1) x3 a0 a1 a2 a3 a4 = some (oMay a0 a1 a2 a3 a4) := by
    intro x3 h3
    simp only [bourneref1_OpMay.j0]
    by_cases c0 : a0 = 0
    · rw [if_pos c0]
      by_cases c3 : x3 = true
      · have h4 := h3.1 c3
        rw [if_pos c3]
        by_cases c4 : a2 ≥ 0
        · rw [if_pos c4]
          by_cases c5 : a2 ≤ 1048575
          · rw [if_pos c5, rwithin9, Option.bind_some]
            by_cases c6 : -1099511627776 ≤ a3 ∧ a3 ≤ 1099511627776
            · rw [if_pos (decide_eq_true c6), rwithin9, Option.bind_some]; exact key _ (by rw [decide_eq_true_eq]; omega)
            · rw [decide_eq_false c6, if_neg (by decide)]; exact key _ ⟨fun h => (by cases h), fun h => by omega⟩
          · rw [if_neg c5]; exact key _ ⟨fun h => (by cases h), fun h => by omega⟩
        · rw [if_neg c4]; exact key _ ⟨fun h => (by cases h), fun h => by omega⟩
      · rw [if_neg c3]; exact key _ ⟨fun h => (by cases h), fun h => absurd (h3.2 (by omega)) c3⟩
    · rw [if_neg c0]
      by_cases c1 : a0 = 1
      · rw [if_pos c1]
        by_cases c3 : x3 = true
        · have h4 := h3.1 c3
          rw [if_pos c3]
          by_cases c4 : a2 = 0
          · rw [if_pos c4]
            by_cases c5 : a3 > -4398046511104
            · rw [if_pos c5]
              by_cases c6 : a3 ≤ 4398046511104
              · rw [if_pos c6]; exact key _ (by rw [beq_iff_eq]; omega)
              · rw [if_neg c6]; exact key _ ⟨fun h => (by cases h), fun h => by omega⟩
            · rw [if_neg c5]; exact key _ ⟨fun h => (by cases h), fun h => by omega⟩
          · rw [if_neg c4]; exact key _ ⟨fun h => (by cases h), fun h => by omega⟩
        · rw [if_neg c3]; exact key _ ⟨fun h => (by cases h), fun h => absurd (h3.2 (by omega)) c3⟩
      · rw [if_neg c1]
        by_cases c2 : a0 = 2
        · rw [if_pos c2]; exact key _ (by simp only [Bool.and_eq_true, beq_iff_eq]; omega)
        · rw [if_neg c2]; exact key _ ⟨fun h => (by cases h), fun h => by omega⟩
  unfold bourneref1_OpMay.f
  by_cases c : a1 ≥ 0
  · rw [if_pos c]; exact fin _ (by rw [decide_eq_true_eq]; omega)
  · rw [if_neg c]; exact fin _ ⟨fun h => (by cases h), fun h => by omega⟩
theorem rput_no {a0 a1 a2 a3 a4 : Int} (h : oMay a0 a1 a2 a3 a4 = false) (k : Nat) : bourneref1_PutOp.f (k + 1) a0 a1 a2 a3 a4 = some ((⟨#[]⟩ : ByteArray), 900) := by
  unfold bourneref1_PutOp.f
  rw [ropMay_eq, h]; rfl
theorem rwput_ok {a0 a1 a2 a3 a4 : Int} (h : oMay a0 a1 a2 a3 a4 = true) (k : Nat) (hk : 20 ≤ k) : bourneref1_PutOp.f (k + 1) a0 a1 a2 a3 a4 = some (S (oenc a0 a1 a2 a3 a4), 0) := by
  have hr := oMay_rng h
  have P : ∀ x : Int, -9223372036854775808 ≤ x → x ≤ 9223372036854775807 → ∃ b, bourneref1_PutNum.f (k + 1) x = some b ∧ L b = enc (zig x) ∧ b.size ≤ 10 := fun x h1 h2 => by
    have hp := L_put h1 h2
    exact ⟨_, rput_ev h1 h2 (k + 1) (by omega), hp, by rw [← L_len, hp]; exact enc_len10 (zig_lt h1 h2)⟩
  obtain ⟨b0, p0, l0, z0⟩ := P a0 (by omega) (by omega)
  obtain ⟨b1, p1, l1, z1⟩ := P a1 (by omega) (by omega)
  obtain ⟨b2, p2, l2, z2⟩ := P a2 (by omega) (by omega)
  obtain ⟨b3, p3, l3, z3⟩ := P a3 (by omega) (by omega)
  obtain ⟨b4, p4, l4, z4⟩ := P a4 (by omega) (by omega)
  have fin : ∀ b : ByteArray, L b = oenc a0 a1 a2 a3 a4 → some (b, (0 : Int)) = some (S (oenc a0 a1 a2 a3 a4), 0) := fun b hb => by
    rw [← hb, S_L9]
  unfold bourneref1_PutOp.f
  rw [ropMay_eq, h, Option.bind_some, if_pos rfl, p0, Option.bind_some]
  unfold oenc at fin
  unfold oenc
  by_cases c0 : a0 = 0
  · rw [if_pos c0, p1, Option.bind_some, if_pos (by omega), p2, Option.bind_some, if_pos (by rw [ByteArray.size_append]; omega), p3, Option.bind_some, if_pos (by rw [ByteArray.size_append, ByteArray.size_append]; omega), p4, Option.bind_some,
      if_pos (by rw [ByteArray.size_append, ByteArray.size_append, ByteArray.size_append]; omega)]
    exact fin _ (by rw [if_pos c0, L_append, L_append, L_append, L_append, l0, l1, l2, l3, l4]; simp only [encs, List.append_assoc, List.append_nil])
  · rw [if_neg c0]
    by_cases c1 : a0 = 1
    · rw [if_pos c1, p1, Option.bind_some, if_pos (by omega), p3, Option.bind_some, if_pos (by rw [ByteArray.size_append]; omega)]
      exact fin _ (by rw [if_neg c0, if_pos c1, L_append, L_append, l0, l1, l3]; simp only [encs, List.append_assoc, List.append_nil])
    · rw [if_neg c1]
      exact fin _ (by rw [if_neg c0, if_neg c1, l0]; simp only [encs, List.append_nil])

/-! ### rsum -/
theorem w_em (x : Nat) : ((x : Nat) : Int) % 65536 = ((x % 65536 : Nat) : Int) := by omega
theorem rsum_l1 (s : ByteArray) (i : Int) (r : Int) (n : Nat) : ∀ x : Nat, n ≤ 8 → x < 65536 → Ev (fun k => bourneref1_Sum.l0 k s ((rounds n x : Nat) : Int) (wrap64 (i + 1))) r →
    Ev (fun k => bourneref1_Sum.l1 k s ((x : Nat) : Int) i ((8 - n : Nat) : Int)) r := by
  induction n with
  | zero =>
    intro x h8 hx h
    rw [rounds_zero] at h
    refine Ev.step (fun k => ?_) h
    simp only [bourneref1_Sum.l1]
    rw [if_neg (by omega)]
  | succ n ih =>
    intro x h8 hx h
    rw [rounds_succ] at h
    have hr := rnd_lt hx
    refine Ev.step (fun k => ?_) (ih (rnd x) (by omega) hr h)
    have q1 : ((8 - (n + 1) : Nat) : Int) < 8 := by omega
    have q2 : 8 - (n + 1) ≤ 4611686018427387904 := by omega
    have q3 : 8 - (n + 1) + 1 = 8 - n := by omega
    simp only [bourneref1_Sum.l1]
    rw [if_pos q1, w_dbl x hx, and_m _ 16 65535 65536 (by decide) rfl rfl, w_up _ q2, q3, w_em]
    by_cases c : x < 32768
    · have q4 : 2 * x % 65536 = 2 * x := by omega
      have q5 : ¬ ((x : Nat) : Int) ≥ 32768 := by omega
      rw [if_neg q5, rnd_lo c, q4]
    · have q4 : 2 * x % 65536 = 2 * x - 65536 := by omega
      have q5 : ((x : Nat) : Int) ≥ 32768 := by omega
      rw [if_pos q5, q4, show (4129 : Int) = ((4129 : Nat) : Int) from rfl, xor_nat _ _ (by omega) (by decide), rnd_hi c]
theorem rsum_l0 (s : ByteArray) (hs : s.size ≤ 4611686018427387904) (d : Nat) : ∀ (x i : Nat), s.size - i = d → i ≤ s.size → x < 65536 →
    Ev (fun k => bourneref1_Sum.l0 k s ((x : Nat) : Int) ((i : Nat) : Int)) ((crcFrom x ((L s).drop i) : Nat) : Int) := by
  have hlen := L_len s
  induction d with
  | zero =>
    intro x i hd hi hx
    have e : (L s).drop i = [] := List.drop_eq_nil_of_le (by omega)
    rw [e, crcFrom_nil]
    refine Ev.step (fun k => ?_) (Ev.now _)
    simp only [bourneref1_Sum.l0]
    rw [if_neg (by omega)]
  | succ d ih =>
    intro x i hd hi hx
    have hlt : i < (L s).length := by omega
    have q1 : ((i : Nat) : Int) < (s.size : Int) := by omega
    have q2 : 0 ≤ ((i : Nat) : Int) := by omega
    have q3 : i ≤ 4611686018427387904 := by omega
    have q4 : s.size - (i + 1) = d := by omega
    have q5 : i + 1 ≤ s.size := by omega
    have hb2 : (L s)[i] < 256 := L_lt s _ (List.getElem_mem hlt)
    have hm := mix_lt hx hb2
    have e : (L s).drop i = (L s)[i] :: (L s).drop (i + 1) := List.drop_eq_getElem_cons hlt
    rw [e, crcFrom_cons]
    have h := ih (stp x (L s)[i]) (i + 1) q4 q5 (stp_lt hx hb2)
    rw [← w_up i q3] at h
    have h2 := rsum_l1 s ((i : Nat) : Int) _ 8 (x ^^^ ((L s)[i] * 256)) (Nat.le_refl _) hm (by rw [← stp_def]; exact h)
    refine Ev.step (fun k => ?_) h2
    simp only [bourneref1_Sum.l0]
    have hb : bt s ((i : Nat) : Int) = (((L s)[i] : Nat) : Int) := by
      rw [bt_L, Int.toNat_natCast, List.getD_eq_getElem?_getD, List.getElem?_eq_getElem hlt]; rfl
    rw [if_pos q1, if_pos q2, hb, w_by _ hb2, xor_nat _ _ (by omega) (by omega)]
    rfl
theorem rsum_ev (s : ByteArray) (hs : s.size ≤ 4611686018427387904) : Ev (fun k => bourneref1_Sum.f k s) ((crc (L s) : Nat) : Int) := by
  have h := rsum_l0 s hs s.size crc0 0 (by omega) (by omega) crc0_lt
  rw [List.drop_zero] at h
  refine Ev.congr (fun k => ?_) h
  unfold bourneref1_Sum.f
  congr 1
  unfold crc0; rfl

/-! ### rputf -/
theorem rput_form (s : ByteArray) (h : s.size < 1 ∨ 60 < s.size) : Ev (fun k => bourneref1_PutFrame.f k s) ((⟨#[]⟩ : ByteArray), 800) := by
  refine Ev.congr (fun k => ?_) (Ev.now _)
  unfold bourneref1_PutFrame.f
  by_cases c : (s.size : Int) < 1
  · rw [if_pos c]
  · rw [if_neg c, if_pos (by omega)]
theorem rput_ok (s : ByteArray) (h1 : 1 ≤ s.size) (h2 : s.size ≤ 60) : Ev (fun k => bourneref1_PutFrame.f k s) (S (putF (L s)), 0) := by
  have hl := L_len s
  have l1 : (S [s.size]).size = 1 := by rw [← L_len, L_one _ (by omega)]; rfl
  have l2 : (S [181]).size = 1 := by rw [← L_len, L_one _ (by decide)]; rfl
  have e1 : L (S [s.size] ++ s) = s.size :: L s := by rw [L_append, L_one _ (by omega)]; rfl
  have l3 : (S [s.size] ++ s).size = 1 + s.size := by rw [← L_len, e1, List.length_cons, hl]; omega
  have l4 : (S [181] ++ (S [s.size] ++ s)).size = 2 + s.size := by rw [← L_len, L_append, L_one _ (by decide), e1]; simp; omega
  have hsum := rsum_ev (S [s.size] ++ s) (by omega)
  rw [e1] at hsum
  have l5 : ∀ c, (S (two c)).size = 2 := fun c => by rw [← L_len, L_S (two_lt c)]; rfl
  have h2s : ∀ c : Nat, strOfNums [((c : Int) / 256) % 256, (c : Int) % 256] = S (two c) := fun c => by unfold S two; simp
  have hb := putF_bytes s h2
  generalize crc (s.size :: L s) = c at *
  have m1 : (strOfNums [181]).size + (S [s.size] ++ s).size ≤ 9223372036854775807 := by rw [S_mark]; omega
  refine Ev.congr (f := fun k => (bourneref1_Sum.f k (S [s.size] ++ s)).bind fun t => if (strOfNums [181] ++ (S [s.size] ++ s)).size + (strOfNums [t / 256 % 256, t % 256]).size ≤ 9223372036854775807 then some ((strOfNums [181] ++ (S [s.size] ++ s)) ++ strOfNums [t / 256 % 256, t % 256], 0) else none) (fun k => ?_) ?_
  · unfold bourneref1_PutFrame.f
    rw [if_neg (by omega), if_neg (by omega), Option.bind_some, S_one _ h2, if_pos (by omega)]
    simp only [Option.bind_some]
    simp only [if_pos m1]
  · refine Ev.bind hsum ?_
    refine Ev.congr (fun k => ?_) (Ev.now _)
    rw [h2s, S_mark, if_pos (by rw [l5]; omega), hb]

/-! ### scan11 -/
/-! the scanner on lists -/
def hit (l : List Nat) : Option (S49 × Nat) :=
  if (getF l 0).2.2 = 0 ∧ (getM (getF l 0).1).2.2.2.2.2 = 0 then some (⟨(getM (getF l 0).1).1, (getM (getF l 0).1).2.1, (getM (getF l 0).1).2.2.1, (getM (getF l 0).1).2.2.2.1, (getM (getF l 0).1).2.2.2.2.1⟩, l.getD 1 0 + 4) else none
def isCut (l : List Nat) : Bool := decide ((getF l 0).2.2 = 801)
def tell (o : List S49) (b : Int) : List S49 := if b = 0 then o else o ++ [⟨3, 0, 0, 0, b⟩]
def bump (b : Int) : Int := mn (b + 1) 1073741823
inductive Run (last : Bool) : List Nat → List S49 → Int → List S49 → List Nat → Int → Prop
  | nil (o : List S49) (b : Int) : Run last [] o b o [] b
  | cut (l : List Nat) (o : List S49) (b : Int) : l ≠ [] → isCut l = true → last = false → Run last l o b o l b
  | bad (c : Nat) (t : List Nat) (o : List S49) (b : Int) (o' : List S49) (l' : List Nat) (b' : Int) : (isCut (c :: t) = true → last = true) → hit (c :: t) = none → Run last t o (bump b) o' l' b' → Run last (c :: t) o b o' l' b'
  | op (l : List Nat) (o : List S49) (b : Int) (x : S49) (n : Nat) (o' : List S49) (l' : List Nat) (b' : Int) : hit l = some (x, n) → Run last (l.drop n) (tell o b ++ [x]) 0 o' l' b' → Run last l o b o' l' b'
theorem getF_p (l : List Nat) (p : Int) : getF l p = ((getF l 0).1, (if (getF l 0).2.2 = 0 then p + ((l.getD 1 0 + 4 : Nat) : Int) else 0), (getF l 0).2.2) := by
  unfold getF
  by_cases c1 : (0 < l.length ∧ l.getD 0 0 ≠ 181) ∨ (1 < l.length ∧ (l.getD 1 0 < 1 ∨ 60 < l.getD 1 0))
  · simp only [if_pos c1]; rfl
  · simp only [if_neg c1]
    by_cases c2 : l.length < 2 ∨ l.length < l.getD 1 0 + 4
    · simp only [if_pos c2]; rfl
    · simp only [if_neg c2]
      by_cases c3 : two (crc ((l.take (l.getD 1 0 + 2)).drop 1)) = (l.take (l.getD 1 0 + 4)).drop (l.getD 1 0 + 2)
      · simp only [if_pos c3]; rfl
      · simp only [if_neg c3]; rfl
theorem getF_ok {l : List Nat} (h : (getF l 0).2.2 = 0) : l.getD 1 0 + 4 ≤ l.length ∧ 1 ≤ l.getD 1 0 ∧ l.getD 1 0 ≤ 60 ∧ l.getD 0 0 = 181 ∧ (getF l 0).1 = (l.take (l.getD 1 0 + 2)).drop 2 ∧ two (crc ((l.take (l.getD 1 0 + 2)).drop 1)) = (l.take (l.getD 1 0 + 4)).drop (l.getD 1 0 + 2) := by
  unfold getF at h ⊢
  by_cases c1 : (0 < l.length ∧ l.getD 0 0 ≠ 181) ∨ (1 < l.length ∧ (l.getD 1 0 < 1 ∨ 60 < l.getD 1 0))
  · simp only [if_pos c1] at h; exact absurd h (by decide)
  · simp only [if_neg c1] at h ⊢
    by_cases c2 : l.length < 2 ∨ l.length < l.getD 1 0 + 4
    · simp only [if_pos c2] at h; exact absurd h (by decide)
    · simp only [if_neg c2] at h ⊢
      by_cases c3 : two (crc ((l.take (l.getD 1 0 + 2)).drop 1)) = (l.take (l.getD 1 0 + 4)).drop (l.getD 1 0 + 2)
      · simp only [if_pos c3]; exact ⟨by omega, by omega, by omega, by omega, trivial, c3⟩
      · simp only [if_neg c3] at h; exact absurd h (by decide)
theorem hit_len {l : List Nat} {x : S49} {n : Nat} (h : hit l = some (x, n)) : 5 ≤ n ∧ n ≤ 64 ∧ n ≤ l.length := by
  unfold hit at h
  split at h
  · rename_i c
    obtain ⟨h1, h2, h3, _, _, _⟩ := getF_ok c.1
    obtain ⟨_, rfl⟩ := Prod.mk.inj (Option.some.inj h)
    exact ⟨by omega, by omega, h1⟩
  · cases h
theorem hit_nil : hit [] = none := by decide +kernel
theorem bump_le (b : Int) (h0 : 0 ≤ b) (h1 : b ≤ 1073741823) : 0 ≤ bump b ∧ bump b ≤ 1073741823 := by
  unfold bump mn
  split <;> omega
theorem told_ev (s : ByteArray) (b : Int) (o : List S49) (h : o.length < 3518437208883) : scan_Scanner_told.f s b o = some (tell o b, s, 0) := by
  unfold scan_Scanner_told.f tell
  by_cases c : b = 0
  · rw [if_pos c, if_pos c, c]
  · rw [if_neg c, if_neg c, if_pos h]
theorem tell_len (o : List S49) (b : Int) : (tell o b).length ≤ o.length + 1 := by
  unfold tell; split <;> simp
theorem x_drop (s : ByteArray) (p : Nat) : s.extract p s.size = S ((L s).drop p) := by
  rw [← S_L0 (s.extract p s.size), L_extract, List.take_of_length_le (by rw [L_len]; exact Nat.le_refl _)]
theorem run_end (last : Bool) (s : ByteArray) (p : Nat) (o : List S49) (b : Int) (ho : o.length < 3518437208883) :
    (if last = true then (scan_Scanner_told.f (s.extract (p : Int).toNat s.size) b o).bind fun t => some (t.1, t.2.1, t.2.2) else some (o, s.extract (p : Int).toNat s.size, b)) = some (if last = true then tell o b else o, S ((L s).drop p), if last = true then 0 else b) := by
  rw [Int.toNat_natCast, x_drop, told_ev _ _ _ ho]
  cases last <;> rfl
theorem get_w (s : ByteArray) (hs : s.size ≤ 4611686018427387904) : Ev (fun k => wire_Get.f k s) (getM (L s)) := ⟨20, fun k hk => get_all s hs k hk⟩
theorem getF1_lt {l : List Nat} (h : ∀ y ∈ l, y < 256) : ∀ y ∈ (getF l 0).1, y < 256 := by
  intro y hy
  unfold getF at hy
  split at hy
  · cases hy
  · split at hy
    · cases hy
    · split at hy
      · exact h y (List.mem_of_mem_take (List.mem_of_mem_drop hy))
      · cases hy
theorem getF1_len (l : List Nat) : (getF l 0).1.length ≤ l.length := by
  unfold getF
  split
  · simp
  · split
    · simp
    · split
      · simp only [List.length_drop, List.length_take]; omega
      · simp
theorem run_ev (last : Bool) (s : ByteArray) (hs : s.size ≤ 4611686018427387904) (z : ByteArray) {l : List Nat} {o : List S49} {b : Int} {o' : List S49} {l' : List Nat} {b' : Int} (h : Run last l o b o' l' b') :
    ∀ p : Nat, p ≤ s.size → (L s).drop p = l → 0 ≤ b → b ≤ 1073741823 → o.length + l.length + 1 < 3518437208883 →
    Ev (fun k => scan_Scanner_run.l0 k last o s (p : Int) z b) (if last = true then tell o' b' else o', S l', if last = true then 0 else b') := by
  have hlen := L_len s
  induction h with
  | nil o b =>
    intro p hp e h0 h1 ho
    have e2 : p = s.size := by
      have := congrArg List.length e; rw [List.length_drop] at this; simp at this; omega
    refine Ev.step (f := fun _ => some (if last = true then tell o b else o, S [], if last = true then 0 else b)) (fun k => ?_) (Ev.now _)
    simp only [scan_Scanner_run.l0]
    rw [if_neg (by omega), if_pos (by omega), if_pos (by omega), run_end last s p o b (by simp at ho; omega), e]
  | cut l o b hne hc hl =>
    intro p hp e h0 h1 ho
    have e2 : p < s.size := by
      have := congrArg List.length e; rw [List.length_drop] at this
      have := List.length_pos_iff.2 hne; omega
    have hg := get_ev' s p hp hs
    rw [e, getF_p] at hg
    have h801 : (getF l 0).2.2 = 801 := of_decide_eq_true hc
    refine Ev.step (f := fun k => (frame_Get.f k s (p : Int)).bind fun t => if t.2.2 = 801 then scan_Scanner_run.j1 k last o s (p : Int) t.1 t.2.1 t.2.2 (!last) z b else scan_Scanner_run.j1 k last o s (p : Int) t.1 t.2.1 t.2.2 false z b) (fun k => ?_) ?_
    · simp only [scan_Scanner_run.l0]
      rw [if_pos (by omega)]
    · refine Ev.bind hg ?_
      try dsimp only
      refine Ev.congr (f := fun k => scan_Scanner_run.j1 k last o s (p : Int) _ _ _ (!last) z b) (fun k => if_pos h801) ?_
      refine Ev.step (f := fun _ => some (if last = true then tell o b else o, S l, if last = true then 0 else b)) (fun k => ?_) (Ev.now _)
      simp only [scan_Scanner_run.j1]
      rw [if_pos (by rw [hl]; rfl), if_pos (by omega), if_pos (by omega), run_end last s p o b (by omega), e]
  | bad c t o b o' l' b' hcut hh hr ih =>
    intro p hp e h0 h1 ho
    have e2 : p < s.size := by
      have := congrArg List.length e; rw [List.length_drop, List.length_cons] at this; omega
    have hg := get_ev' s p hp hs
    rw [e, getF_p] at hg
    have hb := bump_le b h0 h1
    have hd : (L s).drop (p + 1) = t := by rw [← List.drop_drop, e, List.drop_succ_cons, List.drop_zero]
    have ih' := ih (p + 1) (by omega) hd hb.1 hb.2 (by rw [List.length_cons] at ho; omega)
    have hw : wrap64 ((p : Int) + 1) = ((p + 1 : Nat) : Int) := by rw [wrap64_id (by omega) (by omega)]; omega
    have hw2 : mn (wrap64 (b + 1)) 1073741823 = bump b := by rw [wrap64_id (by omega) (by omega)]; rfl
    have hlt : ∀ y ∈ c :: t, y < 256 := fun y hy => L_lt s y (List.mem_of_mem_drop (by rw [e]; exact hy))
    have hW := get_w (S (getF (c :: t) 0).1) (by
      rw [← L_len, L_S (getF1_lt hlt)]
      have := getF1_len (c :: t)
      have := congrArg List.length e; rw [List.length_drop] at this; omega)
    rw [L_S (getF1_lt hlt)] at hW
    have key : Ev (fun k => scan_Scanner_run.j1 k last o s (p : Int) (S (getF (c :: t) 0).1) (if (getF (c :: t) 0).2.2 = 0 then (p : Int) + (((c :: t).getD 1 0 + 4 : Nat) : Int) else 0) (getF (c :: t) 0).2.2 false z b) (if last = true then tell o' b' else o', S l', if last = true then 0 else b') := by
      unfold hit at hh
      generalize getF (c :: t) 0 = q at *
      refine Ev.step (fun k => by simp only [scan_Scanner_run.j1]; rw [if_neg (by decide)]) ?_
      refine Ev.bind hW ?_
      try dsimp only
      refine Ev.congr (fun k => ?_) ih'
      rw [hw, hw2]
      by_cases c1 : q.2.2 = 0
      · rw [if_pos c1]
        by_cases c2 : (getM q.1).2.2.2.2.2 = 0
        · rw [if_pos ⟨c1, c2⟩] at hh; cases hh
        · rw [if_neg c2]
      · rw [if_neg c1]
    refine Ev.step (f := fun k => (frame_Get.f k s (p : Int)).bind fun t => if t.2.2 = 801 then scan_Scanner_run.j1 k last o s (p : Int) t.1 t.2.1 t.2.2 (!last) z b else scan_Scanner_run.j1 k last o s (p : Int) t.1 t.2.1 t.2.2 false z b) (fun k => ?_) ?_
    · simp only [scan_Scanner_run.l0]
      rw [if_pos (by omega)]
    · refine Ev.bind hg ?_
      try dsimp only
      refine Ev.congr (fun k => ?_) key
      by_cases c8 : (getF (c :: t) 0).2.2 = 801
      · rw [if_pos c8, hcut (decide_eq_true c8)]; rfl
      · rw [if_neg c8]
  | op l o b x n o' l' b' hh hr ih =>
    intro p hp e h0 h1 ho
    have hn := hit_len hh
    have hle : l.length = s.size - p := by rw [← e, List.length_drop, hlen]
    have hg := get_ev' s p hp hs
    rw [e, getF_p] at hg
    have hd : (L s).drop (p + n) = l.drop n := by rw [← List.drop_drop, e]
    have htl := tell_len o b
    have ih' := ih (p + n) (by omega) hd (by omega) (by omega) (by rw [List.length_append, List.length_drop]; simp; omega)
    have hlt : ∀ y ∈ l, y < 256 := fun y hy => L_lt s y (List.mem_of_mem_drop (by rw [e]; exact hy))
    have hW := get_w (S (getF l 0).1) (by
      rw [← L_len, L_S (getF1_lt hlt)]
      have := getF1_len l; omega)
    rw [L_S (getF1_lt hlt)] at hW
    unfold hit at hh
    split at hh
    · rename_i c
      obtain ⟨rfl, rfl⟩ := Prod.mk.inj (Option.some.inj hh)
      refine Ev.step (f := fun k => (frame_Get.f k s (p : Int)).bind fun t => if t.2.2 = 801 then scan_Scanner_run.j1 k last o s (p : Int) t.1 t.2.1 t.2.2 (!last) z b else scan_Scanner_run.j1 k last o s (p : Int) t.1 t.2.1 t.2.2 false z b) (fun k => ?_) ?_
      · simp only [scan_Scanner_run.l0]
        rw [if_pos (by omega)]
      · refine Ev.bind hg ?_
        try dsimp only
        rw [c.1]
        refine Ev.congr (f := fun k => scan_Scanner_run.j1 k last o s (p : Int) (S (getF l 0).1) ((p : Int) + ((l.getD 1 0 + 4 : Nat) : Int)) 0 false z b) (fun k => rfl) ?_
        refine Ev.step (fun k => by simp only [scan_Scanner_run.j1]; rw [if_neg (by decide)]) ?_
        refine Ev.bind hW ?_
        try dsimp only
        refine Ev.congr (fun k => ?_) ih'
        rw [if_pos trivial, if_pos c.2, told_ev _ _ _ (by omega), Option.bind_some, Option.bind_some, if_pos (by simp; omega), show ((p + (l.getD 1 0 + 4) : Nat) : Int) = (p : Int) + ((l.getD 1 0 + 4 : Nat) : Int) from Int.natCast_add _ _]
    · cases hh
theorem scan_run (k0 : Bool) (s : ByteArray) (hs : s.size < 3518437208880) {b : Int} (h0 : 0 ≤ b) (h1 : b ≤ 1073741823) {o' : List S49} {l' : List Nat} {b' : Int} (h : Run k0 (L s) [] b o' l' b') :
    Ev (fun k => scan_Scanner_run.f k s b k0) (if k0 = true then tell o' b' else o', S l', if k0 = true then 0 else b') := by
  have hlen := L_len s
  exact run_ev k0 s (by omega) s h 0 (Nat.zero_le _) rfl h0 h1 (by simp; omega)
theorem scan_write (w s : ByteArray) (hs : w.size + s.size < 3518437208880) {b : Int} (h0 : 0 ≤ b) (h1 : b ≤ 1073741823) {o' : List S49} {l' : List Nat} {b' : Int} (h : Run false (L w ++ L s) [] b o' l' b') :
    Ev (fun k => scan_Scanner_Write.f k w b s) (o', S l', b') := by
  have e : (w ++ s).size = w.size + s.size := by rw [ByteArray.size_append]
  have := scan_run false (w ++ s) (by omega) h0 h1 (by rw [L_append]; exact h)
  refine Ev.congr (f := fun k => (scan_Scanner_run.f k (w ++ s) b false).bind fun t => some (t.1, t.2.1, t.2.2)) (fun k => ?_) (Ev.bind this (Ev.now _))
  unfold scan_Scanner_Write.f
  rw [if_pos (by omega)]
theorem scan_close (w : ByteArray) (hs : w.size < 3518437208880) {b : Int} (h0 : 0 ≤ b) (h1 : b ≤ 1073741823) {o' : List S49} {l' : List Nat} {b' : Int} (h : Run true (L w) [] b o' l' b') :
    Ev (fun k => scan_Scanner_Close.f k w b) (tell o' b', S l', 0) := by
  have := scan_run true w hs h0 h1 h
  exact Ev.bind this (Ev.now _)

/-! ### scanfr -/
/-! frames of operations -/
def may5 (x : S49) : Bool := oMay x.f0 x.f1 x.f2 x.f3 x.f4
def enc5 (x : S49) : List Nat := oenc x.f0 x.f1 x.f2 x.f3 x.f4
def fr (x : S49) : List Nat := if may5 x = true then putF (enc5 x) else []
theorem enc5_lt {x : S49} (h : may5 x = true) : ∀ y ∈ enc5 x, y < 256 := by
  unfold enc5; rw [oenc_list]; exact encs_lt _ (olist_rng h)
theorem encs_len (xs : List Int) (h : ∀ x ∈ xs, rng x) : xs.length ≤ (encs xs).length ∧ (encs xs).length ≤ 10 * xs.length := by
  induction xs with
  | nil => exact ⟨Nat.le_refl _, Nat.le_refl _⟩
  | cons x xs ih =>
    have hx := h x (List.mem_cons_self ..)
    have i := ih (fun y hy => h y (List.mem_cons_of_mem _ hy))
    have z : (enc (zig x)).length ≤ 10 := enc_len10 (zig_lt hx.1 hx.2)
    have n : 0 < (enc (zig x)).length := List.length_pos_iff.2 (by unfold enc; split <;> simp)
    rw [encs, List.length_append, List.length_cons]; omega
theorem enc5_len {x : S49} (h : may5 x = true) : 1 ≤ (enc5 x).length ∧ (enc5 x).length ≤ 50 := by
  unfold enc5; rw [oenc_list]
  have := encs_len _ (olist_rng h)
  have hl : (olist x.f0 x.f1 x.f2 x.f3 x.f4).length ≤ 5 ∧ 1 ≤ (olist x.f0 x.f1 x.f2 x.f3 x.f4).length := by
    unfold olist; split
    · simp
    · split <;> simp
  omega
theorem putF_len' (l : List Nat) : (putF l).length = l.length + 4 := by unfold putF two; simp
theorem fr_len {x : S49} (h : may5 x = true) : (fr x).length = (enc5 x).length + 4 := by unfold fr; rw [if_pos h, putF_len']
theorem fr_lt (x : S49) : ∀ y ∈ fr x, y < 256 := by
  unfold fr
  split
  · rename_i h; exact putF_lt _ (enc5_lt h) (by have := enc5_len h; omega)
  · intro y hy; cases hy
theorem fr_le (x : S49) : (fr x).length ≤ 54 := by
  unfold fr
  split
  · rename_i h; rw [putF_len']; have := enc5_len h; omega
  · simp
theorem fr_pos {x : S49} : (fr x = []) ↔ may5 x = false := by
  unfold fr
  split
  · rename_i h; rw [h]; unfold putF; simp
  · rename_i h; simp [h]
theorem S_size {l : List Nat} (h : ∀ y ∈ l, y < 256) : (S l).size = l.length := by rw [← L_len, L_S h]
theorem framed_ev (a0 a1 a2 a3 a4 : Int) : Ev (fun k => bournelaw11_framed.f k a0 a1 a2 a3 a4) (S (fr ⟨a0, a1, a2, a3, a4⟩)) := by
  unfold bournelaw11_framed.f
  by_cases h : oMay a0 a1 a2 a3 a4 = true
  · have hp : Ev (fun k => bourneref1_PutOp.f k a0 a1 a2 a3 a4) (S (enc5 ⟨a0, a1, a2, a3, a4⟩), 0) := ⟨21, fun k hk => by
      obtain ⟨m, rfl⟩ : ∃ m, k = m + 1 := ⟨k - 1, by omega⟩
      exact rwput_ok h m (by omega)⟩
    have hlen := enc5_len (x := ⟨a0, a1, a2, a3, a4⟩) h
    have hlt := enc5_lt (x := ⟨a0, a1, a2, a3, a4⟩) h
    have hf := rput_ok (S (enc5 ⟨a0, a1, a2, a3, a4⟩)) (by rw [S_size hlt]; omega) (by rw [S_size hlt]; omega)
    rw [L_S hlt] at hf
    refine Ev.bind hp ?_
    have e : fr ⟨a0, a1, a2, a3, a4⟩ = putF (enc5 ⟨a0, a1, a2, a3, a4⟩) := if_pos h
    rw [e]
    exact Ev.bind hf (Ev.now _)
  · have hp : Ev (fun k => bourneref1_PutOp.f k a0 a1 a2 a3 a4) ((⟨#[]⟩ : ByteArray), 900) := ⟨1, fun k hk => by
      obtain ⟨m, rfl⟩ : ∃ m, k = m + 1 := ⟨k - 1, by omega⟩
      exact rput_no (Bool.eq_false_iff.2 h) m⟩
    have e : fr ⟨a0, a1, a2, a3, a4⟩ = [] := if_neg h
    rw [e]
    refine Ev.bind hp ?_
    exact Ev.now _
theorem getF_fr {b r : List Nat} (h1 : 1 ≤ b.length) (h2 : b.length ≤ 60) (p : Int) : getF (putF b ++ r) p = (b, p + ((b.length + 4 : Nat) : Int), 0) := by
  have e : putF b ++ r = 181 :: b.length :: (b ++ (two (crc (b.length :: b)) ++ r)) := by unfold putF; simp
  rw [e, getF_row b _ r b.length p rfl h1 h2 rfl, if_pos rfl]
theorem getM_enc5 {x : S49} (h : may5 x = true) : getM (enc5 x) = (x.f0, x.f1, x.f2, x.f3, x.f4, 0) := getM_enc h
theorem hit_fr {x : S49} (h : may5 x = true) (r : List Nat) : hit (fr x ++ r) = some (x, (fr x).length) := by
  have hl := enc5_len h
  have e : fr x = putF (enc5 x) := if_pos h
  have g1 : (putF (enc5 x) ++ r).getD 1 0 = (enc5 x).length := rfl
  unfold hit
  rw [e, getF_fr (by omega) (by omega), g1]
  dsimp only
  rw [getM_enc5 h, if_pos ⟨rfl, rfl⟩, putF_len']
theorem take_getD_parts {l : List Nat} (n : Nat) (h : n + 4 ≤ l.length) (h0 : l.getD 0 0 = 181) (h1 : l.getD 1 0 = n) : l.take (n + 4) = 181 :: n :: (((l.take (n + 2)).drop 2) ++ ((l.take (n + 4)).drop (n + 2))) ∧ (l.take (n + 2)).drop 1 = n :: ((l.take (n + 2)).drop 2) := by
  match l, h with
  | a :: b :: t, h =>
    obtain rfl : a = 181 := h0
    obtain rfl : b = n := h1
    refine ⟨?_, rfl⟩
    rw [List.take_succ_cons, List.take_succ_cons, List.take_succ_cons, List.take_succ_cons, List.drop_succ_cons, List.drop_succ_cons, List.drop_zero, List.drop_succ_cons, List.drop_succ_cons, List.drop_take]
    congr 2
    rw [show b + 2 - b = 2 by omega, List.take_add]
  | [a], h => simp at h
  | [], h => simp at h
theorem hit_inv {l : List Nat} (hb : ∀ y ∈ l, y < 256) {x : S49} {n : Nat} (h : hit l = some (x, n)) : may5 x = true ∧ fr x = l.take n ∧ (fr x).length = n := by
  have hn := hit_len h
  unfold hit at h
  split at h
  · rename_i c
    obtain ⟨rfl, rfl⟩ := Prod.mk.inj (Option.some.inj h)
    obtain ⟨g1, g2, g3, g4, g5, g6⟩ := getF_ok c.1
    have hbl := getF1_lt hb
    rcases getM_cases _ hbl with e | ⟨a0, a1, a2, a3, a4, hm, he, e⟩
    · rw [e] at c; exact absurd c.2 (by decide)
    · rw [e]
      dsimp only
      have hl2 : (getF l 0).1.length = l.getD 1 0 := by rw [g5, List.length_drop, List.length_take]; omega
      have ef : fr ⟨a0, a1, a2, a3, a4⟩ = l.take (l.getD 1 0 + 4) := by
        unfold fr
        rw [if_pos (show may5 ⟨a0, a1, a2, a3, a4⟩ = true from hm)]
        obtain ⟨t1, t2⟩ := take_getD_parts (l.getD 1 0) g1 g4 rfl
        rw [t1, ← g6, t2, ← g5]
        have e5 : enc5 ⟨a0, a1, a2, a3, a4⟩ = (getF l 0).1 := he.symm
        rw [e5]
        unfold putF
        rw [hl2]; rfl
      refine ⟨hm, ef, ?_⟩
      rw [ef, List.length_take]; omega
  · cases h
theorem cut_fr (x : S49) (j : Nat) (hj : j < (fr x).length) : isCut ((fr x).take j) = true := by
  have hm : may5 x = true := by
    by_cases h : may5 x = true
    · exact h
    · have : fr x = [] := fr_pos.2 (Bool.eq_false_iff.2 h)
      rw [this] at hj; simp at hj
  have hl := enc5_len hm
  rw [fr_len hm] at hj
  have e : fr x = 181 :: (enc5 x).length :: (enc5 x ++ two (crc ((enc5 x).length :: enc5 x))) := by unfold fr putF; rw [if_pos hm]; rfl
  unfold isCut
  rw [e, show (0 : Int) = ((0 : Nat) : Int) from rfl, getF_cut (enc5 x) _ _ j rfl hl.1 (by omega) rfl hj]; rfl
theorem hit_cut {l : List Nat} (h : isCut l = true) : hit l = none := by
  unfold isCut at h
  have := of_decide_eq_true h
  unfold hit
  rw [this, if_neg (fun c => absurd c.1 (by decide))]
theorem no_mark (c : Nat) (t : List Nat) (h : c ≠ 181) : isCut (c :: t) = false ∧ hit (c :: t) = none := by
  have e : getF (c :: t) 0 = ([], 0, 800) := by
    unfold getF
    rw [if_pos (.inl ⟨by simp, h⟩)]
  unfold isCut hit
  rw [e]
  exact ⟨rfl, if_neg (fun c => absurd c.1 (by decide))⟩
theorem bump_eq {b : Int} (h : b + 1 ≤ 1073741823) : bump b = b + 1 := by unfold bump mn; split <;> omega
theorem run_junk {last : Bool} {o o' : List S49} {l' r : List Nat} {b' : Int} (j : List Nat) : ∀ (b : Int), (∀ c ∈ j, c ≠ 181) → b + j.length ≤ 1073741823 → Run last r o (b + j.length) o' l' b' → Run last (j ++ r) o b o' l' b' := by
  induction j with
  | nil => intro b _ _ h; simpa using h
  | cons c j ih =>
    intro b hc hb h
    have n := no_mark c (j ++ r) (hc c (List.mem_cons_self ..))
    rw [List.length_cons] at hb h
    refine Run.bad c (j ++ r) o b o' l' b' (fun z => by rw [n.1] at z; cases z) n.2 ?_
    rw [bump_eq (by omega)]
    refine ih (b + 1) (fun x hx => hc x (List.mem_cons_of_mem _ hx)) (by omega) ?_
    have e : b + 1 + (j.length : Int) = b + ((j.length + 1 : Nat) : Int) := by omega
    rw [e]; exact h
theorem run_fr {last : Bool} {x : S49} (hm : may5 x = true) {o o' : List S49} {b b' : Int} {r l' : List Nat} (h : Run last r (tell o b ++ [x]) 0 o' l' b') : Run last (fr x ++ r) o b o' l' b' := by
  refine Run.op _ o b x (fr x).length o' l' b' (hit_fr hm r) ?_
  rw [List.drop_left' rfl]; exact h
theorem hit_short {l : List Nat} (h : l.length < 5) : hit l = none := by
  cases e : hit l with
  | none => rfl
  | some q =>
    obtain ⟨x, n⟩ := q
    have := hit_len e; omega
theorem run_short (l : List Nat) : ∀ (o : List S49) (b : Int), l.length < 5 → b + l.length ≤ 1073741823 → ∃ i, i ≤ l.length ∧ Run false l o b o (l.drop i) (b + i) := by
  induction l with
  | nil => intro o b _ _; exact ⟨0, Nat.le_refl _, by simpa using Run.nil o b⟩
  | cons c t ih =>
    intro o b hl hb
    rw [List.length_cons] at hl hb
    by_cases hc : isCut (c :: t) = true
    · exact ⟨0, Nat.zero_le _, by simpa using Run.cut (c :: t) o b (by simp) hc rfl⟩
    · obtain ⟨i, hi, h⟩ := ih o (b + 1) (by omega) (by omega)
      refine ⟨i + 1, by rw [List.length_cons]; omega, ?_⟩
      refine Run.bad c t o b _ _ _ (fun z => absurd z hc) (hit_short (by rw [List.length_cons]; omega)) ?_
      rw [bump_eq (by omega), List.drop_succ_cons, show b + ((i + 1 : Nat) : Int) = b + 1 + (i : Int) by omega]; exact h
theorem run_last (l : List Nat) : ∀ (o : List S49) (b : Int), l.length < 5 → b + l.length ≤ 1073741823 → Run true l o b o [] (b + l.length) := by
  induction l with
  | nil => intro o b _ _; simpa using Run.nil o b
  | cons c t ih =>
    intro o b hl hb
    rw [List.length_cons] at hl hb
    refine Run.bad c t o b _ _ _ (fun _ => rfl) (hit_short (by rw [List.length_cons]; omega)) ?_
    have h := ih o (b + 1) (by omega) (by omega)
    rw [bump_eq (by omega), List.length_cons, show b + ((t.length + 1 : Nat) : Int) = b + 1 + (t.length : Int) by omega]; exact h



end Go.Proofs.Ytmccgkbbgicglaa.ScanPureR
