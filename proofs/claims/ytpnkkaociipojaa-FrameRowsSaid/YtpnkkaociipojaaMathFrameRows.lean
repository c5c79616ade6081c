/- The law FrameRows answers true at any bodies: frames one behind the other are read in their row. No condition. -/
import Derived.Test.YtpnkkaociipojaaQFrameRowsx3
namespace Go.Proofs.Ytpnkkaociipojaa.Pure
open Go.RowKit Go.Proofs.Ytpnkkaociipojaa.QFrameRows Go.Proofs.YtpnkkaociipojaaW.PrintWords Go.Proofs.YtpnkkaociipojaaW.PrintLast Go.Proofs.YtpnkkaociipojaaW.PrintMore
set_option linter.unusedVariables false
set_option linter.unusedSimpArgs false

/-! ### base -/
theorem wf_i64 {a : Int} (h : (Lit.int .i64 a).wf = true) : -9223372036854775808 ≤ a ∧ a ≤ 9223372036854775807 := by
  simpa [Lit.wf, IntKind.min, IntKind.max, IntKind.signed, IntKind.bits] using h
theorem wrap64_id {n : Int} (h1 : -9223372036854775808 ≤ n) (h2 : n ≤ 9223372036854775807) : wrap64 n = n := by
  unfold wrap64; omega
theorem toNat_ofInt64 (a : Int) : ((BitVec.ofInt 64 a).toNat : Int) = a % 18446744073709551616 := by
  rw [BitVec.toNat_ofInt]
  have h : (0 : Int) ≤ a % ((2 ^ 64 : Nat) : Int) := Int.emod_nonneg _ (by decide)
  rw [Int.toNat_of_nonneg h]; rfl
theorem wrap_i64_nat (n : Nat) (h : n < 9223372036854775808) : IntKind.i64.wrap (n : Int) = (n : Int) := by
  rw [IntKind.wrap_i64]; omega
theorem and_mask (a : Int) (j : Nat) (hj : j ≤ 63) : Go.bits .and .i64 a (2 ^ j - 1) = a % 2 ^ j := by
  have hp : 2 ^ j ≤ 2 ^ 63 := Nat.pow_le_pow_right (by decide) hj
  have hpos : 0 < 2 ^ j := Nat.two_pow_pos j
  have hc : ((2 : Int) ^ j - 1) = ((2 ^ j - 1 : Nat) : Int) := by
    rw [Int.natCast_sub hpos]; simp
  have hd : (2 : Int) ^ j ∣ 18446744073709551616 := ⟨2 ^ (64 - j), by rw [← Int.pow_add]; rw [show j + (64 - j) = 64 by omega]; rfl⟩
  show IntKind.i64.wrap (((BitVec.ofInt 64 a &&& BitVec.ofInt 64 (2 ^ j - 1)).toNat : Nat) : Int) = _
  rw [BitVec.toNat_and, hc, BitVec.ofInt_natCast, BitVec.toNat_ofNat, Nat.mod_eq_of_lt (Nat.lt_of_lt_of_le (Nat.sub_lt hpos (by decide)) (Nat.le_trans hp (by decide))), Nat.and_two_pow_sub_one_eq_mod]
  rw [wrap_i64_nat _ (Nat.lt_of_lt_of_le (Nat.mod_lt _ hpos) hp), Int.natCast_emod, toNat_ofInt64, Int.natCast_pow]
  exact Int.emod_emod_of_dvd a hd
theorem and_m (a : Int) (j : Nat) (m p : Int) (hj : j ≤ 63) (hp : (2 : Int) ^ j = p) (hm : m = p - 1) : Go.bits .and .i64 a m = a % p := by
  subst hm; rw [← hp]; exact and_mask a j hj

/-! ### bytes -/
def L (s : ByteArray) : List Nat := s.data.toList.map UInt8.toNat
theorem L_len (s : ByteArray) : (L s).length = s.size := by unfold L; simp
theorem L_append (a b : ByteArray) : L (a ++ b) = L a ++ L b := by unfold L; simp [ByteArray.data_append]
theorem L_extract (s : ByteArray) (i j : Nat) : L (s.extract i j) = ((L s).take j).drop i := by
  unfold L; rw [ByteArray.data_extract, Array.toList_extract, List.extract_eq_take_drop]
  rw [List.map_take, List.map_drop, List.drop_take]
theorem L_lt (s : ByteArray) : ∀ x ∈ L s, x < 256 := by
  intro x hx
  unfold L at hx
  obtain ⟨b, _, rfl⟩ := List.mem_map.1 hx
  exact b.toNat_lt
theorem L_inj {s t : ByteArray} (h : L s = L t) : s = t := by
  unfold L at h
  have hi : Function.Injective UInt8.toNat := fun a b h => UInt8.toNat_inj.1 h
  have := (List.map_inj_right (fun a b h => hi h)).1 h
  cases s; cases t
  congr 1
  exact Array.toList_inj.1 this
theorem bt_L (s : ByteArray) (i : Int) : bt s i = (((L s).getD i.toNat 0 : Nat) : Int) := by
  unfold bt L
  by_cases h : i.toNat < s.size
  · rw [dif_pos h, List.getD_eq_getElem?_getD, List.getElem?_map, List.getElem?_eq_getElem (by simpa using h)]
    simp; rfl
  · rw [dif_neg h, List.getD_eq_getElem?_getD, List.getElem?_eq_none (by simpa using h)]
    simp
theorem L_mk (l : List UInt8) : L ⟨l.toArray⟩ = l.map UInt8.toNat := by unfold L; simp
theorem L_str (xs : List Nat) (h : ∀ x ∈ xs, x < 256) : L (strOfNums (xs.map fun n : Nat => (n : Int))) = xs := by
  unfold strOfNums L
  simp only [List.map_map]
  conv => rhs; rw [← List.map_id xs]
  apply List.map_congr_left
  intro x hx
  have := h x hx
  simp [Function.comp]
  omega
theorem eq_of_toList {s t : ByteArray} (h : s.toList = t.toList) : s = t := by
  rw [ByteArray.toList_eq, ByteArray.toList_eq] at h
  cases s; cases t
  congr 1
  exact Array.toList_inj.1 h
theorem toList_beq (s t : ByteArray) : (s.toList == t.toList) = decide (L s = L t) := by
  by_cases h : s = t
  · subst h; simp
  · have h1 : ¬ s.toList = t.toList := fun e => h (eq_of_toList e)
    have h2 : ¬ L s = L t := fun e => h (L_inj e)
    simp [h1, h2]
theorem L_toList (s : ByteArray) : s.toList.map UInt8.toNat = L s := by rw [ByteArray.toList_eq]; rfl
theorem toList_lit (s : ByteArray) (l : List UInt8) : (s.toList = l) ↔ L s = l.map UInt8.toNat := by
  constructor
  · rintro rfl; rw [L_toList]
  · intro h
    rw [← L_toList] at h
    exact (List.map_inj_right (fun a b h => UInt8.toNat_inj.1 h)).1 h
attribute [local irreducible] L bt

/-! ### vmath -/
def enc (u : Nat) : List Nat := if h : u < 128 then [u] else (u % 128 + 128) :: enc (u / 128)
termination_by u
def zig (x : Int) : Nat := if 0 ≤ x then (2 * x).toNat else (-2 * x - 1).toNat
def unzig (u : Nat) : Int := if u % 2 = 0 then ((u / 2 : Nat) : Int) else -((u / 2 : Nat) : Int) - 1
def fin : List Nat → Nat
  | [] => 0
  | b :: r => if b < 128 then 1 else if fin r = 0 then 0 else fin r + 1
def val : List Nat → Nat
  | [] => 0
  | b :: r => b % 128 + 128 * val r
def getS (l : List Nat) (p : Int) : Int × Int × Int :=
  if fin (l.take 10) = 0 then (if l.length < 10 then (0, 0, 701) else (0, 0, 700))
  else if (fin (l.take 10) = 10 ∧ 1 < l.getD 9 0) ∨ (1 < fin (l.take 10) ∧ l.getD (fin (l.take 10) - 1) 0 = 0) then (0, 0, 700)
  else (unzig (val (l.take (fin (l.take 10)))), p + fin (l.take 10), 0)
theorem enc_small {u : Nat} (h : u < 128) : enc u = [u] := by rw [enc]; rw [dif_pos h]
theorem enc_big {u : Nat} (h : ¬ u < 128) : enc u = (u % 128 + 128) :: enc (u / 128) := by rw [enc]; rw [dif_neg h]
theorem enc_pos (u : Nat) : 1 ≤ (enc u).length := by
  by_cases h : u < 128
  · rw [enc_small h]; simp
  · rw [enc_big h]; simp
theorem enc_ne (u : Nat) : enc u ≠ [] := by
  have := enc_pos u
  intro h; rw [h] at this; simp at this
theorem enc_lt (n : Nat) : ∀ u, u < 128 ^ n → ∀ x ∈ enc u, x < 256 := by
  induction n with
  | zero => intro u hu x hx; rw [enc_small (by omega)] at hx; simp at hx; omega
  | succ n ih =>
    intro u hu x hx
    by_cases h : u < 128
    · rw [enc_small h] at hx; simp at hx; omega
    · rw [enc_big h] at hx
      rcases List.mem_cons.1 hx with rfl | hx
      · omega
      · exact ih (u / 128) (by rw [Nat.pow_succ] at hu; omega) x hx
theorem enc_len (n : Nat) : ∀ u, u < 128 ^ (n + 1) → (n = 0 ∨ 128 ^ n ≤ u) → (enc u).length = n + 1 := by
  induction n with
  | zero => intro u hu _; rw [enc_small (by simpa using hu)]; rfl
  | succ n ih =>
    intro u hu hl
    have hl : 128 ^ (n + 1) ≤ u := by omega
    have h1 : 1 ≤ 128 ^ n := Nat.pow_pos (by decide)
    rw [Nat.pow_succ] at hl hu
    rw [enc_big (by omega)]
    simp only [List.length_cons]
    rw [ih (u / 128) (by omega) (by omega)]
theorem enc_le (n : Nat) : ∀ u, u < 128 ^ (n + 1) → (enc u).length ≤ n + 1 := by
  induction n with
  | zero => intro u hu; rw [enc_small (by simpa using hu)]; simp
  | succ n ih =>
    intro u hu
    by_cases h : u < 128
    · rw [enc_small h]; simp
    · rw [enc_big h]
      rw [Nat.pow_succ] at hu
      have := ih (u / 128) (by omega)
      simp only [List.length_cons]; omega
theorem enc_len10 {u : Nat} (h : u < 18446744073709551616) : (enc u).length ≤ 10 := enc_le 9 u (Nat.lt_of_lt_of_le h (by decide))
theorem fin_enc (r : List Nat) (n : Nat) : ∀ u, u < 128 ^ n → fin (enc u ++ r) = (enc u).length := by
  induction n with
  | zero => intro u hu; rw [enc_small (by omega)]; simp [fin]; omega
  | succ n ih =>
    intro u hu
    by_cases h : u < 128
    · rw [enc_small h]; simp [fin]; omega
    · rw [enc_big h]
      rw [Nat.pow_succ] at hu
      have e := ih (u / 128) (by omega)
      have hp := enc_pos (u / 128)
      simp only [List.cons_append, fin, e, List.length_cons]
      rw [if_neg (by omega), if_neg (by omega)]
theorem fin_cut (n : Nat) : ∀ u, u < 128 ^ n → ∀ m, m < (enc u).length → fin ((enc u).take m) = 0 := by
  induction n with
  | zero => intro u hu m hm; rw [enc_small (by omega)] at *; simp at hm; subst hm; rfl
  | succ n ih =>
    intro u hu m hm
    by_cases h : u < 128
    · rw [enc_small h] at *; simp at hm; subst hm; rfl
    · rw [enc_big h] at *
      rw [Nat.pow_succ] at hu
      cases m with
      | zero => rfl
      | succ m =>
        simp only [List.length_cons] at hm
        have e := ih (u / 128) (by omega) m (by omega)
        simp only [List.take_succ_cons, fin, e]
        rw [if_neg (by omega)]; rfl
theorem val_enc (n : Nat) : ∀ u, u < 128 ^ n → val (enc u) = u := by
  induction n with
  | zero => intro u hu; rw [enc_small (by omega)]; simp [val]; omega
  | succ n ih =>
    intro u hu
    by_cases h : u < 128
    · rw [enc_small h]; simp [val]; omega
    · rw [enc_big h]
      rw [Nat.pow_succ] at hu
      simp only [val, ih (u / 128) (by omega)]; omega
theorem val_lt (l : List Nat) : val l < 128 ^ l.length := by
  induction l with
  | nil => simp [val]
  | cons b r ih => simp only [val, List.length_cons, Nat.pow_succ]; omega
theorem val_app (a b : List Nat) : val (a ++ b) = val a + 128 ^ a.length * val b := by
  induction a with
  | nil => simp [val]
  | cons x r ih =>
    simp only [List.cons_append, val, ih, List.length_cons, Nat.pow_succ]
    rw [Nat.mul_add, ← Nat.mul_assoc, Nat.mul_comm 128 (128 ^ r.length)]; omega
theorem fin_le (l : List Nat) : fin l ≤ l.length := by
  induction l with
  | nil => simp [fin]
  | cons b r ih => simp only [fin, List.length_cons]; split <;> (try split) <;> omega
theorem val_bound (l : List Nat) (h0 : fin (l.take 10) ≠ 0) (hc : ¬ ((fin (l.take 10) = 10 ∧ 1 < l.getD 9 0) ∨ (1 < fin (l.take 10) ∧ l.getD (fin (l.take 10) - 1) 0 = 0))) :
    val (l.take (fin (l.take 10))) < 18446744073709551616 := by
  have hf := fin_le (l.take 10)
  rw [List.length_take] at hf
  generalize fin (l.take 10) = n at *
  have e9 : (128 : Nat) ^ 9 = 9223372036854775808 := by decide
  by_cases c : n = 10
  · subst c
    have h9 : ¬ 1 < l.getD 9 0 := fun z => hc (Or.inl ⟨rfl, z⟩)
    have hl : 9 < l.length := by omega
    rw [List.take_succ_eq_append_getElem hl, val_app]
    have hv := val_lt (l.take 9)
    rw [List.length_take, Nat.min_eq_left (by omega), e9] at hv
    rw [List.getD_eq_getElem?_getD, List.getElem?_eq_getElem hl] at h9
    simp only [Option.getD_some] at h9
    rw [List.length_take, Nat.min_eq_left (by omega), e9]
    simp only [val]
    omega
  · have hv := val_lt (l.take n)
    have : 128 ^ (l.take n).length ≤ 128 ^ 9 := Nat.pow_le_pow_right (by decide) (by rw [List.length_take]; omega)
    omega
/-- The last byte of a number's bytes. -/
theorem enc_last (n : Nat) : ∀ u, u < 128 ^ n → ∀ r, (enc u ++ r).getD ((enc u).length - 1) 0 = u / 128 ^ ((enc u).length - 1) ∧ (1 < (enc u).length → 1 ≤ u / 128 ^ ((enc u).length - 1)) := by
  induction n with
  | zero => intro u hu r; rw [enc_small (by omega)]; simp
  | succ n ih =>
    intro u hu r
    by_cases h : u < 128
    · rw [enc_small h]; simp
    · have hp := enc_pos (u / 128)
      rw [Nat.pow_succ] at hu
      obtain ⟨e1, e2⟩ := ih (u / 128) (by omega) r
      rw [enc_big h]
      simp only [List.length_cons, Nat.add_sub_cancel, List.cons_append]
      have hk : (enc (u / 128)).length = ((enc (u / 128)).length - 1) + 1 := by omega
      have hq : u / 128 ^ (enc (u / 128)).length = u / 128 / 128 ^ ((enc (u / 128)).length - 1) := by
        conv => lhs; rw [hk]
        rw [Nat.pow_succ, Nat.mul_comm, Nat.div_div_eq_div_mul]
      constructor
      · rw [hq, ← e1]
        conv => lhs; rw [hk]
        rw [List.getD_cons_succ]
      · intro _
        rw [hq]
        by_cases c : 1 < (enc (u / 128)).length
        · exact e2 c
        · have : (enc (u / 128)).length - 1 = 0 := by omega
          rw [this]; simp; omega
theorem getS_enc {u : Nat} (hu : u < 18446744073709551616) (r : List Nat) (p : Int) : getS (enc u ++ r) p = (unzig u, p + (enc u).length, 0) := by
  have hu' : u < 128 ^ 10 := Nat.lt_of_lt_of_le hu (by decide)
  have h10 := enc_len10 hu
  have hp := enc_pos u
  have hf : fin ((enc u ++ r).take 10) = (enc u).length := by
    rw [List.take_append, List.take_of_length_le h10]
    exact fin_enc _ 10 u hu'
  obtain ⟨l1, l2⟩ := enc_last 10 u hu' r
  unfold getS
  rw [hf, if_neg (by omega), if_neg]
  · rw [List.take_left, val_enc 10 u hu']
  · rintro (⟨h1, h2⟩ | ⟨h1, h2⟩)
    · rw [h1] at l1
      have : u / 128 ^ (10 - 1) ≤ 1 := by
        have : u / 128 ^ (10 - 1) < 2 := Nat.div_lt_of_lt_mul (by simpa using hu)
        omega
      have : (enc u ++ r).getD 9 0 = u / 128 ^ (10 - 1) := l1
      omega
    · rw [l1] at h2
      have := l2 h1
      omega
theorem enc_of (l : List Nat) : (∀ x ∈ l, x < 256) → fin l = l.length → 1 ≤ l.length → (l.length = 1 ∨ l.getD (l.length - 1) 0 ≠ 0) → enc (val l) = l := by
  induction l with
  | nil => intro _ _ h; simp at h
  | cons b r ih =>
    intro hb hf h1 hl
    have hb0 := hb b (List.mem_cons_self ..)
    cases r with
    | nil =>
      have : b < 128 := by
        by_cases c : b < 128
        · exact c
        · simp [fin, c] at hf
      simp only [val]
      rw [enc_small (by omega)]; congr 1; omega
    | cons c r =>
      have hbig : ¬ b < 128 := by
        intro c'; simp [fin, c'] at hf
      have hf' : fin (c :: r) = (c :: r).length := by
        rw [fin, if_neg hbig] at hf
        by_cases z : fin (c :: r) = 0
        · rw [if_pos z] at hf; simp at hf
        · rw [if_neg z] at hf; simpa using hf
      have hl' : (c :: r).length = 1 ∨ (c :: r).getD ((c :: r).length - 1) 0 ≠ 0 := by
        rcases hl with hl | hl
        · simp at hl
        · refine Or.inr ?_
          simpa using hl
      have e := ih (fun x hx => hb x (List.mem_cons_of_mem _ hx)) hf' (by simp) hl'
      have hv : val (c :: r) ≠ 0 := by
        intro z
        rw [z, enc_small (by decide)] at e
        have : c = 0 ∧ r = [] := by simpa using e.symm
        obtain ⟨rfl, rfl⟩ := this
        rcases hl with hl | hl
        · simp at hl
        · simp at hl
      have ev : val (b :: c :: r) = b % 128 + 128 * val (c :: r) := rfl
      rw [ev, enc_big (by omega)]
      rw [show (b % 128 + 128 * val (c :: r)) / 128 = val (c :: r) by omega, e]
      congr 1; omega
theorem fin_take (l : List Nat) : fin l ≠ 0 → fin (l.take (fin l)) = fin l := by
  induction l with
  | nil => intro h; simp [fin] at h
  | cons b r ih =>
    intro h
    by_cases c : b < 128
    · have : fin (b :: r) = 1 := by simp [fin, c]
      rw [this]; simp [fin, c]
    · by_cases z : fin r = 0
      · exfalso; apply h; simp [fin, c, z]
      · have e : fin (b :: r) = fin r + 1 := by simp [fin, c, z]
        rw [e, List.take_succ_cons]
        simp [fin, c, ih z, z]
theorem getS_ok {l : List Nat} {p x q : Int} (hb : ∀ y ∈ l, y < 256) (h : getS l p = (x, q, 0)) :
    ∃ u r, u < 18446744073709551616 ∧ l = enc u ++ r ∧ x = unzig u ∧ q = p + (enc u).length := by
  unfold getS at h
  by_cases h0 : fin (l.take 10) = 0
  · rw [if_pos h0] at h
    split at h <;> simp at h
  · rw [if_neg h0] at h
    by_cases hc : (fin (l.take 10) = 10 ∧ 1 < l.getD 9 0) ∨ (1 < fin (l.take 10) ∧ l.getD (fin (l.take 10) - 1) 0 = 0)
    · rw [if_pos hc] at h; simp at h
    · rw [if_neg hc] at h
      simp only [Prod.mk.injEq] at h
      obtain ⟨h1, h2, _⟩ := h
      have hvb := val_bound l h0 hc
      generalize hn : fin (l.take 10) = n at *
      have hle : n ≤ 10 := by
        have := fin_le (l.take 10)
        rw [List.length_take] at this; omega
      have hll : n ≤ l.length := by
        have := fin_le (l.take 10)
        rw [List.length_take] at this; omega
      have ht : (l.take n).length = n := by rw [List.length_take]; omega
      have hfn : fin (l.take n) = n := by
        have := fin_take (l.take 10) (by omega)
        rw [hn, List.take_take, Nat.min_eq_left hle] at this
        exact this
      have hlast : (l.take n).getD (n - 1) 0 = l.getD (n - 1) 0 := by
        rw [List.getD_eq_getElem?_getD, List.getD_eq_getElem?_getD, List.getElem?_take_of_lt (by omega)]
      have he : enc (val (l.take n)) = l.take n := by
        refine enc_of _ (fun y hy => hb y (List.mem_of_mem_take hy)) (by rw [hfn, ht]) (by omega) ?_
        rw [ht, hlast]
        by_cases c : n = 1
        · exact Or.inl c
        · exact Or.inr (fun z => hc (Or.inr ⟨by omega, z⟩))
      refine ⟨val (l.take n), l.drop n, ?_, ?_, h1.symm, ?_⟩
      · exact hvb
      · rw [he, List.take_append_drop]
      · rw [he, ht]; exact h2.symm
theorem getS_code (l : List Nat) (p : Int) : (getS l p).2.2 = 0 ∨ getS l p = (0, 0, 700) ∨ getS l p = (0, 0, 701) := by
  unfold getS
  split
  · split <;> simp
  · split <;> simp
theorem unzig_zig (x : Int) : unzig (zig x) = x := by
  unfold unzig zig
  by_cases h : 0 ≤ x
  · rw [if_pos h, if_pos (by omega)]; omega
  · rw [if_neg h, if_neg (by omega)]; omega
theorem zig_unzig (u : Nat) : zig (unzig u) = u := by
  unfold unzig zig
  by_cases h : u % 2 = 0
  · rw [if_pos h, if_pos (by omega)]; omega
  · rw [if_neg h, if_neg (by omega)]; omega
theorem zig_lt {x : Int} (h1 : -9223372036854775808 ≤ x) (h2 : x ≤ 9223372036854775807) : zig x < 18446744073709551616 := by
  unfold zig; split <;> omega
theorem unzig_range {u : Nat} (h : u < 18446744073709551616) : -9223372036854775808 ≤ unzig u ∧ unzig u ≤ 9223372036854775807 := by
  unfold unzig; split <;> omega
theorem getS_cut {u : Nat} (hu : u < 18446744073709551616) (m : Nat) (hm : m < (enc u).length) (p : Int) : getS ((enc u).take m) p = (0, 0, 701) := by
  have h10 := enc_len10 hu
  unfold getS
  rw [List.take_take, Nat.min_eq_right (by omega), fin_cut 10 u (Nat.lt_of_lt_of_le hu (by decide)) m hm, if_pos rfl, if_pos (by rw [List.length_take]; omega)]
theorem enc_inj {u v : Nat} (hu : u < 18446744073709551616) (hv : v < 18446744073709551616) (r t : List Nat) (h : enc u ++ r = enc v ++ t) : u = v ∧ r = t := by
  have h1 := getS_enc hu r 0
  have h2 := getS_enc hv t 0
  rw [h, h2] at h1
  simp only [Prod.mk.injEq] at h1
  have e : u = v := by rw [← zig_unzig u, ← zig_unzig v, h1.1]
  subst e
  exact ⟨rfl, List.append_cancel_left h⟩

theorem fin_small {b : Nat} (h : b < 128) (r : List Nat) : fin (b :: r) = 1 := by simp [fin, h]
theorem fin_big0 {b : Nat} (h : ¬ b < 128) {r : List Nat} (z : fin r = 0) : fin (b :: r) = 0 := by simp [fin, h, z]
theorem fin_big1 {b : Nat} (h : ¬ b < 128) {r : List Nat} (z : fin r ≠ 0) : fin (b :: r) = fin r + 1 := by simp [fin, h, z]

/-! ### vbits -/
theorem u8or_all : ∀ n : Fin 256, Go.bits .or .u8 (n.val : Int) 128 = ((n.val % 128 + 128 : Nat) : Int) := by decide +kernel
theorem u8and_all : ∀ n : Fin 256, Go.bits .and .u8 (n.val : Int) 127 = ((n.val % 128 : Nat) : Int) := by decide +kernel
theorem u8or (n : Nat) (h : n < 256) : Go.bits .or .u8 (n : Int) 128 = ((n % 128 + 128 : Nat) : Int) := u8or_all ⟨n, h⟩
theorem u8and (n : Nat) (h : n < 256) : Go.bits .and .u8 (n : Int) 127 = ((n % 128 : Nat) : Int) := u8and_all ⟨n, h⟩
theorem wrap_u64 (n : Int) : IntKind.u64.wrap n = n % 18446744073709551616 := by simp [IntKind.wrap, IntKind.bits, IntKind.signed]
theorem wrap_u64_id {n : Int} (h0 : 0 ≤ n) (h1 : n < 18446744073709551616) : IntKind.u64.wrap n = n := by rw [wrap_u64]; omega
theorem bv_nat (x : Nat) (h : x < 18446744073709551616) : (BitVec.ofInt 64 (x : Int)).toNat = x := by
  rw [BitVec.ofInt_natCast, BitVec.toNat_ofNat]; exact Nat.mod_eq_of_lt h
theorem xor64_zero (x : Nat) (h : x < 18446744073709551616) : Go.bits .xor .u64 (x : Int) 0 = (x : Int) := by
  show IntKind.u64.wrap (((BitVec.ofInt 64 (x : Int) ^^^ BitVec.ofInt 64 0).toNat : Nat) : Int) = _
  rw [show BitVec.ofInt 64 0 = 0#64 from rfl, BitVec.xor_zero, bv_nat x h, wrap_u64]; omega
theorem xor64_ones (x : Nat) (h : x < 18446744073709551616) : Go.bits .xor .u64 (x : Int) 18446744073709551615 = 18446744073709551615 - (x : Int) := by
  show IntKind.u64.wrap (((BitVec.ofInt 64 (x : Int) ^^^ BitVec.ofInt 64 18446744073709551615).toNat : Nat) : Int) = _
  rw [show BitVec.ofInt 64 18446744073709551615 = BitVec.allOnes 64 from by decide, BitVec.xor_allOnes, BitVec.toNat_not, bv_nat x h, wrap_u64]; omega
theorem xori_zero (x : Nat) (h : x < 9223372036854775808) : Go.bits .xor .i64 (x : Int) 0 = (x : Int) := by
  show IntKind.i64.wrap (((BitVec.ofInt 64 (x : Int) ^^^ BitVec.ofInt 64 0).toNat : Nat) : Int) = _
  rw [show BitVec.ofInt 64 0 = 0#64 from rfl, BitVec.xor_zero, bv_nat x (by omega), IntKind.wrap_i64]; omega
theorem xori_ones (x : Nat) (h : x < 9223372036854775808) : Go.bits .xor .i64 (x : Int) (-1) = -(x : Int) - 1 := by
  show IntKind.i64.wrap (((BitVec.ofInt 64 (x : Int) ^^^ BitVec.ofInt 64 (-1)).toNat : Nat) : Int) = _
  rw [show BitVec.ofInt 64 (-1) = BitVec.allOnes 64 from by decide, BitVec.xor_allOnes, BitVec.toNat_not, bv_nat x (by omega), IntKind.wrap_i64]; omega
theorem and64_one (x : Nat) (h : x < 18446744073709551616) : Go.bits .and .u64 (x : Int) 1 = ((x % 2 : Nat) : Int) := by
  have := bits_mask .u64 64 (Nat.le_refl _) (fun n h0 h1 => wrap_u64_id h0 (by simpa using h1)) 1 (by decide) (x : Int) (by omega) (by simpa using Int.ofNat_lt.2 h)
  simpa using this
theorem or64 (x y : Nat) (hx : x < 18446744073709551616) (hd : x % 128 = 0) (hy : y < 128) : Go.bits .or .u64 (x : Int) (y : Int) = ((x + y : Nat) : Int) := by
  have := bits_join .u64 64 (Nat.le_refl _) (fun n h0 h1 => wrap_u64_id h0 (by simpa using h1)) 7 (x : Int) (y : Int) (by omega) (by simp; omega) (by simpa using Int.ofNat_lt.2 hx) (by omega) (by simp; omega) (by simp; omega)
  rw [this]; simp
/-- Bytes of small numbers. -/
def S (l : List Nat) : ByteArray := strOfNums (l.map fun n : Nat => (n : Int))
theorem L_S {l : List Nat} (h : ∀ x ∈ l, x < 256) : L (S l) = l := L_str l h
theorem put_u {x : Int} (h1 : -9223372036854775808 ≤ x) (h2 : x ≤ 9223372036854775807) :
    Go.bits .xor .u64 (IntKind.u64.wrap ((IntKind.u64.wrap x) * 2)) (IntKind.u64.wrap (x / 9223372036854775808)) = ((zig x : Nat) : Int) := by
  unfold zig
  by_cases h : 0 ≤ x
  · have e1 : IntKind.u64.wrap (x / 9223372036854775808) = 0 := by rw [wrap_u64]; omega
    have e2 : IntKind.u64.wrap ((IntKind.u64.wrap x) * 2) = (((2 * x).toNat : Nat) : Int) := by rw [wrap_u64, wrap_u64]; omega
    rw [e1, e2, xor64_zero _ (by omega), if_pos h]
  · have e1 : IntKind.u64.wrap (x / 9223372036854775808) = 18446744073709551615 := by rw [wrap_u64]; omega
    have e2 : IntKind.u64.wrap ((IntKind.u64.wrap x) * 2) = (((2 * x + 18446744073709551616).toNat : Nat) : Int) := by rw [wrap_u64, wrap_u64]; omega
    rw [e1, e2, xor64_ones _ (by omega), if_neg h]; omega
theorem xor64_ones' (x : Nat) (h : x < 18446744073709551616) : Go.bits .xor .u64 18446744073709551615 (x : Int) = 18446744073709551615 - (x : Int) := by
  show IntKind.u64.wrap (((BitVec.ofInt 64 18446744073709551615 ^^^ BitVec.ofInt 64 (x : Int)).toNat : Nat) : Int) = _
  rw [show BitVec.ofInt 64 18446744073709551615 = BitVec.allOnes 64 from by decide, BitVec.xor_comm, BitVec.xor_allOnes, BitVec.toNat_not, bv_nat x h, wrap_u64]; omega
theorem or128u_all : ∀ n : Fin 128, (Go.bits .or .u64 (n.val : Int) 128) % 256 = ((n.val + 128 : Nat) : Int) := by decide +kernel
theorem and127u (x : Nat) (h : x < 18446744073709551616) : Go.bits .and .u64 (x : Int) 127 = ((x % 128 : Nat) : Int) := by
  have := bits_mask .u64 64 (Nat.le_refl _) (fun n h0 h1 => wrap_u64_id h0 (by simpa using h1)) 7 (by decide) (x : Int) (by omega) (by simpa using Int.ofNat_lt.2 h)
  simpa using this
theorem fin_app0 (b : Nat) (hb : ¬ b < 128) : ∀ l, fin l = 0 → fin (l ++ [b]) = 0 := by
  intro l
  induction l with
  | nil => intro _; simp [fin, hb]
  | cons c r ih =>
    intro h
    by_cases c1 : c < 128
    · simp [fin, c1] at h
    · have hr : fin r = 0 := by
        by_cases z : fin r = 0
        · exact z
        · simp [fin, c1, z] at h
      simp [fin, c1, ih hr]
theorem fin_app1 (b : Nat) (hb : b < 128) (t : List Nat) : ∀ l, fin l = 0 → fin (l ++ b :: t) = l.length + 1 := by
  intro l
  induction l with
  | nil => intro _; simp [fin, hb]
  | cons c r ih =>
    intro h
    by_cases c1 : c < 128
    · simp [fin, c1] at h
    · have hr : fin r = 0 := by
        by_cases z : fin r = 0
        · exact z
        · simp [fin, c1, z] at h
      simp [fin, c1, ih hr]

/-! ### crc -/
theorem xor_nat (a b : Nat) (ha : a < 9223372036854775808) (hb : b < 9223372036854775808) : Go.bits .xor .i64 (a : Int) (b : Int) = ((a ^^^ b : Nat) : Int) := by
  show IntKind.i64.wrap (((BitVec.ofInt 64 (a : Int) ^^^ BitVec.ofInt 64 (b : Int)).toNat : Nat) : Int) = _
  rw [BitVec.toNat_xor, bv_nat a (by omega), bv_nat b (by omega)]
  exact wrap_i64_nat _ (Nat.xor_lt_two_pow (n := 63) ha hb)
theorem and_bit (x i : Nat) : x &&& 2 ^ i = if x.testBit i then 2 ^ i else 0 := by
  apply Nat.eq_of_testBit_eq
  intro j
  rw [Nat.testBit_and, Nat.testBit_two_pow]
  by_cases e : i = j
  · subst e
    cases h : x.testBit i <;> simp
  · cases h : x.testBit i <;> simp [e]
theorem and_hi (x : Nat) (hx : x < 65536) : Go.bits .and .i64 (x : Int) 32768 = if x < 32768 then 0 else 32768 := by
  have e := (bits_nat .i64 63 (by decide) (fun n h0 h1 => by rw [show (2 : Int) ^ 63 = 9223372036854775808 from by decide] at h1; rw [IntKind.wrap_i64]; omega) x 32768 (by omega) (by decide)).1
  have e2 := and_bit x 15
  rw [Nat.testBit_eq_decide_div_mod_eq] at e2
  rw [show (2 : Nat) ^ 15 = 32768 from by decide] at e2
  have e3 : Go.bits .and .i64 (x : Int) 32768 = ((x &&& 32768 : Nat) : Int) := e
  rw [e3, e2]
  by_cases h : x < 32768
  · rw [if_pos h, if_neg (by simp; omega)]; rfl
  · rw [if_neg h, if_pos (by simp; omega)]; rfl
/-- One round of the sum. -/
def rnd (x : Nat) : Nat := if x < 32768 then 2 * x else (2 * x - 65536) ^^^ 4129
def rounds : Nat → Nat → Nat
  | 0, x => x
  | n + 1, x => rounds n (rnd x)
def stp (x b : Nat) : Nat := rounds 8 (x ^^^ (b * 256))
def crcFrom (x : Nat) (l : List Nat) : Nat := l.foldl stp x
def crc0 : Nat := 65535
theorem crc0_lt : crc0 < 65536 := by unfold crc0; omega
attribute [local irreducible] crc0
def crc (l : List Nat) : Nat := crcFrom crc0 l
theorem rnd_lt {x : Nat} (h : x < 65536) : rnd x < 65536 := by
  unfold rnd
  by_cases c : x < 32768
  · rw [if_pos c]; omega
  · rw [if_neg c]; exact Nat.xor_lt_two_pow (n := 16) (by omega) (by decide)
theorem rounds_lt (n : Nat) : ∀ {x : Nat}, x < 65536 → rounds n x < 65536 := by
  induction n with
  | zero => intro x h; exact h
  | succ n ih => intro x h; exact ih (rnd_lt h)
theorem mix_lt {x b : Nat} (h : x < 65536) (hb : b < 256) : x ^^^ (b * 256) < 65536 := Nat.xor_lt_two_pow (n := 16) h (by show b * 256 < 65536; omega)
theorem stp_lt {x b : Nat} (h : x < 65536) (hb : b < 256) : stp x b < 65536 := by unfold stp; exact rounds_lt 8 (mix_lt h hb)
theorem crcFrom_nil (x : Nat) : crcFrom x [] = x := rfl
theorem crcFrom_cons (x b : Nat) (r : List Nat) : crcFrom x (b :: r) = crcFrom (stp x b) r := by unfold crcFrom; rw [List.foldl_cons]
attribute [local irreducible] stp rounds
theorem crcFrom_app (x : Nat) (l r : List Nat) : crcFrom x (l ++ r) = crcFrom (crcFrom x l) r := by unfold crcFrom; rw [List.foldl_append]
attribute [local irreducible] crcFrom
theorem crcFrom_lt (l : List Nat) : ∀ {x : Nat}, x < 65536 → (∀ b ∈ l, b < 256) → crcFrom x l < 65536 := by
  induction l with
  | nil => intro x h _; rw [crcFrom_nil]; exact h
  | cons b r ih => intro x h hb; rw [crcFrom_cons]; exact ih (stp_lt h (hb b (List.mem_cons_self ..))) (fun c hc => hb c (List.mem_cons_of_mem _ hc))
theorem crc_lt (l : List Nat) (hb : ∀ b ∈ l, b < 256) : crc l < 65536 := crcFrom_lt l crc0_lt hb
theorem xor_can {a b c : Nat} (h : a ^^^ c = b ^^^ c) : a = b := by
  have : a ^^^ c ^^^ c = b ^^^ c ^^^ c := by rw [h]
  rwa [Nat.xor_assoc, Nat.xor_assoc, Nat.xor_self, Nat.xor_zero, Nat.xor_zero] at this
theorem xor_odd (a : Nat) (h : a % 2 = 0) : (a ^^^ 4129) % 2 = 1 := by
  have := Nat.xor_mod_two_pow (a := a) (b := 4129) (n := 1)
  rw [show (2 : Nat) ^ 1 = 2 from rfl, h] at this
  rw [this]; decide
theorem rnd_inj {x y : Nat} (hx : x < 65536) (hy : y < 65536) (h : rnd x = rnd y) : x = y := by
  unfold rnd at h
  by_cases c : x < 32768
  · rw [if_pos c] at h
    by_cases d : y < 32768
    · rw [if_pos d] at h; omega
    · rw [if_neg d] at h
      have := xor_odd (2 * y - 65536) (by omega)
      omega
  · rw [if_neg c] at h
    by_cases d : y < 32768
    · rw [if_pos d] at h
      have := xor_odd (2 * x - 65536) (by omega)
      omega
    · rw [if_neg d] at h
      have := xor_can h
      omega
theorem rounds_inj (n : Nat) : ∀ {x y : Nat}, x < 65536 → y < 65536 → rounds n x = rounds n y → x = y := by
  induction n with
  | zero => intro x y _ _ h; rw [rounds, rounds] at h; exact h
  | succ n ih => intro x y hx hy h; rw [rounds, rounds] at h; exact rnd_inj hx hy (ih (rnd_lt hx) (rnd_lt hy) h)
theorem stp_inj {x y b : Nat} (hx : x < 65536) (hy : y < 65536) (hb : b < 256) (h : stp x b = stp y b) : x = y := by
  unfold stp at h
  exact xor_can (rounds_inj 8 (mix_lt hx hb) (mix_lt hy hb) h)
theorem stp_inj' {x b c : Nat} (hx : x < 65536) (hb : b < 256) (hc : c < 256) (h : stp x b = stp x c) : b = c := by
  unfold stp at h
  have e := rounds_inj 8 (mix_lt hx hb) (mix_lt hx hc) h
  rw [Nat.xor_comm x, Nat.xor_comm x] at e
  have := xor_can e
  omega
theorem crcFrom_inj (l : List Nat) : ∀ {x y : Nat}, x < 65536 → y < 65536 → (∀ b ∈ l, b < 256) → crcFrom x l = crcFrom y l → x = y := by
  induction l with
  | nil => intro x y _ _ _ h; rw [crcFrom_nil, crcFrom_nil] at h; exact h
  | cons b r ih =>
    intro x y hx hy hb h
    rw [crcFrom_cons, crcFrom_cons] at h
    have b1 := hb b (List.mem_cons_self ..)
    exact stp_inj hx hy b1 (ih (stp_lt hx b1) (stp_lt hy b1) (fun c hc => hb c (List.mem_cons_of_mem _ hc)) h)
/-- One byte turned turns the sum. -/
theorem crc_turn (l r : List Nat) (b c : Nat) (hl : ∀ x ∈ l, x < 256) (hr : ∀ x ∈ r, x < 256) (hb : b < 256) (hc : c < 256) (h : crc (l ++ b :: r) = crc (l ++ c :: r)) : b = c := by
  unfold crc at h
  rw [crcFrom_app, crcFrom_app] at h
  have hx := crcFrom_lt l crc0_lt hl
  rw [crcFrom_cons, crcFrom_cons] at h
  exact stp_inj' hx hb hc (crcFrom_inj r (stp_lt hx hb) (stp_lt hx hc) hr h)

/-! ### fsum -/
theorem w_dbl (x : Nat) (h : x < 65536) : wrap64 ((x : Int) * 2) = ((2 * x : Nat) : Int) := by
  rw [wrap64_id (by omega) (by omega)]; omega
theorem w_tm (x : Nat) : Int.tmod ((x : Nat) : Int) 65536 = ((x % 65536 : Nat) : Int) := by
  rw [Int.tmod_eq_emod_of_nonneg (by omega)]; omega
theorem w_by (b : Nat) (h : b < 256) : wrap64 (wrap64 (b : Int) * 256) = ((b * 256 : Nat) : Int) := by
  rw [wrap64_id (n := (b : Int)) (by omega) (by omega), wrap64_id (by omega) (by omega)]; omega
theorem w_up (i : Nat) (h : i ≤ 4611686018427387904) : wrap64 ((i : Int) + 1) = ((i + 1 : Nat) : Int) := by
  rw [wrap64_id (by omega) (by omega)]; omega
theorem rounds_zero (x : Nat) : rounds 0 x = x := by rw [rounds]
theorem rounds_succ (n x : Nat) : rounds (n + 1) x = rounds n (rnd x) := by rw [rounds]
theorem rnd_lo {x : Nat} (h : x < 32768) : rnd x = 2 * x := by unfold rnd; rw [if_pos h]
theorem rnd_hi {x : Nat} (h : ¬ x < 32768) : rnd x = (2 * x - 65536) ^^^ 4129 := by unfold rnd; rw [if_neg h]
theorem stp_def (x b : Nat) : stp x b = rounds 8 (x ^^^ (b * 256)) := by unfold stp; rfl
theorem sum_l1 (s : ByteArray) (m i : Int) (r : Int) (n : Nat) : ∀ x : Nat, n ≤ 8 → x < 65536 → Ev (fun k => frame_Sum.l0 k s ((rounds n x : Nat) : Int) m (wrap64 (i + 1))) r →
    Ev (fun k => frame_Sum.l1 k s ((x : Nat) : Int) m i ((8 - n : Nat) : Int)) r := by
  induction n with
  | zero =>
    intro x h8 hx h
    rw [rounds_zero] at h
    refine Ev.step (fun k => ?_) h
    simp only [frame_Sum.l1]
    rw [if_neg (by omega)]
  | succ n ih =>
    intro x h8 hx h
    rw [rounds_succ] at h
    have hr := rnd_lt hx
    refine Ev.step (fun k => ?_) (ih (rnd x) (by omega) hr h)
    have q1 : ((8 - (n + 1) : Nat) : Int) < 8 := by omega
    have q2 : 8 - (n + 1) ≤ 4611686018427387904 := by omega
    have q3 : 8 - (n + 1) + 1 = 8 - n := by omega
    simp only [frame_Sum.l1]
    rw [if_pos q1, and_hi x hx, w_dbl x hx, w_tm, w_up _ q2, q3]
    by_cases c : x < 32768
    · rw [if_pos c, if_pos rfl, rnd_lo c]
      have q4 : 2 * x % 65536 = 2 * x := by omega
      rw [q4]
    · have q4 : 2 * x % 65536 = 2 * x - 65536 := by omega
      rw [if_neg c, if_neg (by decide), q4, show (4129 : Int) = ((4129 : Nat) : Int) from rfl, xor_nat _ _ (by omega) (by decide), rnd_hi c]
theorem sum_l0 (s : ByteArray) (hs : s.size ≤ 4611686018427387904) (d : Nat) : ∀ (x i : Nat), s.size - i = d → i ≤ s.size → x < 65536 →
    Ev (fun k => frame_Sum.l0 k s ((x : Nat) : Int) (s.size : Int) ((i : Nat) : Int)) ((crcFrom x ((L s).drop i) : Nat) : Int) := by
  have hlen := L_len s
  induction d with
  | zero =>
    intro x i hd hi hx
    have e : (L s).drop i = [] := List.drop_eq_nil_of_le (by omega)
    rw [e, crcFrom_nil]
    refine Ev.step (fun k => ?_) (Ev.now _)
    simp only [frame_Sum.l0]
    rw [if_neg (by omega)]
  | succ d ih =>
    intro x i hd hi hx
    have hlt : i < (L s).length := by omega
    have q1 : ((i : Nat) : Int) < (s.size : Int) := by omega
    have q2 : 0 ≤ ((i : Nat) : Int) := by omega
    have q3 : i ≤ 4611686018427387904 := by omega
    have q4 : s.size - (i + 1) = d := by omega
    have q5 : i + 1 ≤ s.size := by omega
    have hb2 : (L s)[i] < 256 := L_lt s _ (List.getElem_mem hlt)
    have hm := mix_lt hx hb2
    have e : (L s).drop i = (L s)[i] :: (L s).drop (i + 1) := List.drop_eq_getElem_cons hlt
    rw [e, crcFrom_cons]
    have h := ih (stp x (L s)[i]) (i + 1) q4 q5 (stp_lt hx hb2)
    rw [← w_up i q3] at h
    have h2 := sum_l1 s (s.size : Int) ((i : Nat) : Int) _ 8 (x ^^^ ((L s)[i] * 256)) (Nat.le_refl _) hm (by rw [← stp_def]; exact h)
    refine Ev.step (fun k => ?_) h2
    simp only [frame_Sum.l0]
    have hb : bt s ((i : Nat) : Int) = (((L s)[i] : Nat) : Int) := by
      rw [bt_L, Int.toNat_natCast, List.getD_eq_getElem?_getD, List.getElem?_eq_getElem hlt]; rfl
    rw [if_pos q1, if_pos q2, if_pos q1, hb, w_by _ hb2, xor_nat _ _ (by omega) (by omega)]
    rfl
theorem sum_ev (s : ByteArray) (hs : s.size ≤ 4611686018427387904) : Ev (fun k => frame_Sum.f k s) ((crc (L s) : Nat) : Int) := by
  have h := sum_l0 s hs s.size crc0 0 (by omega) (by omega) crc0_lt
  rw [List.drop_zero] at h
  refine Ev.congr (fun k => ?_) h
  unfold frame_Sum.f
  congr 1
  unfold crc0; rfl

/-! ### fget -/
theorem S_L (b : ByteArray) : S (L b) = b := L_inj (L_S (L_lt b))
def two (x : Nat) : List Nat := [x / 256 % 256, x % 256]
theorem two_lt (x : Nat) : ∀ y ∈ two x, y < 256 := by
  intro y hy
  simp [two] at hy
  rcases hy with rfl | rfl <;> omega
theorem two_eq (x : Nat) : frame_Two.f ((x : Nat) : Int) = some (S (two x)) := by
  unfold frame_Two.f S two
  simp
def getF (l : List Nat) (p : Int) : List Nat × Int × Int :=
  if (0 < l.length ∧ l.getD 0 0 ≠ 181) ∨ (1 < l.length ∧ (l.getD 1 0 < 1 ∨ 60 < l.getD 1 0)) then ([], 0, 800)
  else if l.length < 2 ∨ l.length < l.getD 1 0 + 4 then ([], 0, 801)
  else if two (crc ((l.take (l.getD 1 0 + 2)).drop 1)) = (l.take (l.getD 1 0 + 4)).drop (l.getD 1 0 + 2) then ((l.take (l.getD 1 0 + 2)).drop 2, p + ((l.getD 1 0 + 4 : Nat) : Int), 0)
  else ([], 0, 800)
theorem S_nil : S [] = (⟨#[]⟩ : ByteArray) := rfl
theorem w_end (b : Nat) (h : b < 256) : wrap64 (2 + wrap64 (b : Int)) = ((b + 2 : Nat) : Int) := by
  rw [wrap64_id (n := (b : Int)) (by omega) (by omega), wrap64_id (by omega) (by omega)]; omega
theorem w_end2 (b : Nat) (h : b < 256) : wrap64 (((b + 2 : Nat) : Int) + 2) = ((b + 4 : Nat) : Int) := by
  rw [wrap64_id (by omega) (by omega)]; omega
theorem w_to (p b : Nat) (hp : p ≤ 4611686018427387904) (h : b < 256) : wrap64 (wrap64 ((p : Int) + ((b + 2 : Nat) : Int)) + 2) = (p : Int) + ((b + 4 : Nat) : Int) := by
  rw [wrap64_id (n := (p : Int) + ((b + 2 : Nat) : Int)) (by omega) (by omega), wrap64_id (by omega) (by omega)]; omega
theorem get_j2t (p : Int) (r : ByteArray) : Ev (fun k => frame_Get.j2 k p r true) (S [], 0, 801) := by
  refine Ev.step (fun k => ?_) (Ev.now _)
  simp only [frame_Get.j2, if_true]; rw [S_nil]
theorem get_j1t (p : Int) (r : ByteArray) : Ev (fun k => frame_Get.j1 k p r true) (S [], 0, 800) := by
  refine Ev.step (fun k => ?_) (Ev.now _)
  simp only [frame_Get.j1, if_true]; rw [S_nil]
theorem get_j2f (p : Nat) (r : ByteArray) (b : Nat) (hp : p ≤ 4611686018427387904) (hr : r.size ≤ 4611686018427387904) (h1 : 1 < r.size) (hb : bt r 1 = (b : Int)) (hb2 : b < 256) (h2 : b + 4 ≤ r.size) :
    Ev (fun k => frame_Get.j2 k (p : Int) r false) (if two (crc (((L r).take (b + 2)).drop 1)) = ((L r).take (b + 4)).drop (b + 2) then (S (((L r).take (b + 2)).drop 2), (p : Int) + ((b + 4 : Nat) : Int), 0) else (S [], 0, 800)) := by
  have hl := L_len r
  have q1 : (1 : Int) < (r.size : Int) := by omega
  have q2 : (1 : Int) ≤ ((b + 2 : Nat) : Int) := by omega
  have q3 : ((b + 2 : Nat) : Int) ≤ (r.size : Int) := by omega
  have q4 : (0 : Int) ≤ ((b + 2 : Nat) : Int) := by omega
  have q5 : ((b + 2 : Nat) : Int) ≤ ((b + 4 : Nat) : Int) := by omega
  have q6 : ((b + 4 : Nat) : Int) ≤ (r.size : Int) := by omega
  have q7 : (2 : Int) ≤ ((b + 2 : Nat) : Int) := by omega
  have hsz : (r.extract 1 (b + 2)).size ≤ 4611686018427387904 := by
    rw [← L_len, L_extract, List.length_drop, List.length_take]; omega
  have hsum := sum_ev (r.extract 1 (b + 2)) hsz
  rw [L_extract] at hsum
  have hx : ∀ n m, r.extract n m = S (((L r).take m).drop n) := fun n m => by rw [← L_extract, S_L]
  have hlt : ∀ n m, ∀ y ∈ ((L r).take m).drop n, y < 256 := fun n m y hy => L_lt r y (List.mem_of_mem_take (List.mem_of_mem_drop hy))
  generalize crc (((L r).take (b + 2)).drop 1) = c at *
  refine Ev.step (f := fun k => (frame_Sum.f k (r.extract 1 (b + 2))).bind fun t => (frame_Two.f t).bind fun u => if u.toList = (r.extract (b + 2) (b + 4)).toList then some (r.extract 2 (b + 2), (p : Int) + ((b + 4 : Nat) : Int), 0) else some ((⟨#[]⟩ : ByteArray), 0, 800)) (fun k => ?_) ?_
  · simp only [frame_Get.j2]
    rw [hb, w_end b hb2, w_end2 b hb2, w_to p b hp hb2, if_neg (by decide), if_pos q1, if_pos q2, if_pos q3]
    simp only [if_pos q4, if_pos q5, if_pos q6, if_pos q7, Int.toNat_natCast]
  · refine Ev.bind hsum ?_
    refine Ev.congr (f := fun _ => if (S (two c)).toList = (r.extract (b + 2) (b + 4)).toList then some (r.extract 2 (b + 2), (p : Int) + ((b + 4 : Nat) : Int), 0) else some ((⟨#[]⟩ : ByteArray), 0, 800)) (fun k => by rw [two_eq]; rfl) ?_
    have hiff : ((S (two c)).toList = (r.extract (b + 2) (b + 4)).toList) ↔ two c = ((L r).take (b + 4)).drop (b + 2) := by
      rw [toList_lit, L_toList, L_S (two_lt c), L_extract]
    by_cases e : two c = ((L r).take (b + 4)).drop (b + 2)
    · rw [if_pos e, ← hx 2 (b + 2)]
      exact Ev.congr (fun k => by rw [if_pos (hiff.2 e)]) (Ev.now _)
    · rw [if_neg e]
      exact Ev.congr (fun k => by rw [if_neg (fun h => e (hiff.1 h)), S_nil]) (Ev.now _)
theorem get_ev' (s : ByteArray) (p : Nat) (hp : p ≤ s.size) (hs : s.size ≤ 4611686018427387904) :
    Ev (fun k => frame_Get.f k s (p : Int)) (S (getF ((L s).drop p) (p : Int)).1, (getF ((L s).drop p) (p : Int)).2.1, (getF ((L s).drop p) (p : Int)).2.2) := by
  have hr : L (s.extract p s.size) = (L s).drop p := by rw [L_extract, List.take_of_length_le (by rw [L_len]; omega)]
  have hz : (s.extract p s.size).size ≤ 4611686018427387904 := by rw [← L_len, hr, List.length_drop, L_len]; omega
  have hbt : ∀ i : Int, bt (s.extract p s.size) i = ((((L s).drop p).getD i.toNat 0 : Nat) : Int) := fun i => by rw [bt_L, hr]
  have hlt : ∀ y ∈ (L s).drop p, y < 256 := fun y hy => L_lt s y (List.mem_of_mem_drop hy)
  have hsz : (s.extract p s.size).size = ((L s).drop p).length := by rw [← L_len, hr]
  have hg1 : ((L s).drop p).getD 1 0 < 256 := by
    rw [List.getD_eq_getElem?_getD]
    by_cases c : 1 < ((L s).drop p).length
    · rw [List.getElem?_eq_getElem c]; exact hlt _ (List.getElem_mem c)
    · rw [List.getElem?_eq_none (by omega)]; decide
  have q1 : ¬ ((p : Int) < 0) := by omega
  have q2 : ¬ ((p : Int) > (s.size : Int)) := by omega
  have q3 : (0 : Int) ≤ (p : Int) := by omega
  have q4 : (p : Int) ≤ (s.size : Int) := by omega
  have q5 : p ≤ 4611686018427387904 := by omega
  have h0 : ∀ k, frame_Get.f k s (p : Int) = frame_Get.j0 k s (p : Int) false := fun k => by
    unfold frame_Get.f; rw [if_neg q1, decide_eq_false q2]
  refine Ev.congr h0 ?_
  have b0 : bt (s.extract p s.size) 0 = ((((L s).drop p).getD 0 0 : Nat) : Int) := hbt 0
  have b1 : bt (s.extract p s.size) 1 = ((((L s).drop p).getD 1 0 : Nat) : Int) := hbt 1
  clear hbt
  have hj2 := fun h1 h2 => get_j2f p (s.extract p s.size) (((L s).drop p).getD 1 0) q5 hz h1 b1 hg1 h2
  rw [hr] at hj2
  have hj0 : ∀ k, frame_Get.j0 (k + 1) s (p : Int) false = _ := fun k => by
    simp only [frame_Get.j0]
    rw [if_neg (by decide), if_pos q3, if_pos q4, Int.toNat_natCast]
  generalize s.extract p s.size = r at *
  generalize (L s).drop p = l at *
  have hj1f : ¬ (l.length < 2 ∨ l.length < l.getD 1 0 + 4) → Ev (fun k => frame_Get.j1 k (p : Int) r false) (if two (crc ((l.take (l.getD 1 0 + 2)).drop 1)) = (l.take (l.getD 1 0 + 4)).drop (l.getD 1 0 + 2) then (S ((l.take (l.getD 1 0 + 2)).drop 2), (p : Int) + ((l.getD 1 0 + 4 : Nat) : Int), 0) else (S [], 0, 800)) := by
    intro h
    have z1 : 1 < r.size := by omega
    have z2 : l.getD 1 0 + 4 ≤ r.size := by omega
    have z3 : ¬ ((r.size : Int) < 2) := by omega
    have z4 : (1 : Int) < (r.size : Int) := by omega
    have z5 : ¬ ((r.size : Int) < ((l.getD 1 0 + 4 : Nat) : Int)) := by omega
    refine Ev.step (fun k => ?_) (hj2 z1 z2)
    simp only [frame_Get.j1]
    rw [if_neg (by decide), if_neg z3, if_pos z4, b1, w_end _ hg1, w_end2 _ hg1, decide_eq_false z5]
  have hj1c : (l.length < 2 ∨ l.length < l.getD 1 0 + 4) → Ev (fun k => frame_Get.j1 k (p : Int) r false) (S [], 0, 801) := by
    intro h
    refine Ev.step (fun k => ?_) (get_j2t (p : Int) r)
    simp only [frame_Get.j1]
    by_cases z : (r.size : Int) < 2
    · rw [if_neg (by decide), if_pos z]
    · have z4 : (1 : Int) < (r.size : Int) := by omega
      have z5 : ((r.size : Int) < ((l.getD 1 0 + 4 : Nat) : Int)) := by omega
      rw [if_neg (by decide), if_neg z, if_pos z4, b1, w_end _ hg1, w_end2 _ hg1, decide_eq_true z5]
  unfold getF
  generalize hx : l.getD 0 0 = x at *
  generalize hb : l.getD 1 0 = b at *
  by_cases c1 : (0 < l.length ∧ x ≠ 181) ∨ (1 < l.length ∧ (b < 1 ∨ 60 < b))
  · rw [if_pos c1]
    refine Ev.step (fun k => ?_) (get_j1t (p : Int) r)
    rw [hj0, b0, b1]
    by_cases z0 : (r.size : Int) > 0
    · rw [if_pos z0, if_pos z0]
      by_cases z1 : (x : Int) = 181
      · have w1 : (r.size : Int) > 1 := by omega
        rw [if_pos z1, if_pos w1, if_pos w1]
        by_cases z2 : (b : Int) < 1
        · rw [if_pos z2]
        · rw [if_neg z2, decide_eq_true (by omega)]
      · rw [if_neg z1]
    · exfalso; omega
  · rw [if_neg c1]
    have hmid : Ev (fun k => frame_Get.j1 k (p : Int) r false) (S (if l.length < 2 ∨ l.length < b + 4 then (([] : List Nat), (0 : Int), (801 : Int)) else if two (crc ((l.take (b + 2)).drop 1)) = (l.take (b + 4)).drop (b + 2) then ((l.take (b + 2)).drop 2, (p : Int) + ((b + 4 : Nat) : Int), 0) else ([], 0, 800)).1, (if l.length < 2 ∨ l.length < b + 4 then (([] : List Nat), (0 : Int), (801 : Int)) else if two (crc ((l.take (b + 2)).drop 1)) = (l.take (b + 4)).drop (b + 2) then ((l.take (b + 2)).drop 2, (p : Int) + ((b + 4 : Nat) : Int), 0) else ([], 0, 800)).2.1, (if l.length < 2 ∨ l.length < b + 4 then (([] : List Nat), (0 : Int), (801 : Int)) else if two (crc ((l.take (b + 2)).drop 1)) = (l.take (b + 4)).drop (b + 2) then ((l.take (b + 2)).drop 2, (p : Int) + ((b + 4 : Nat) : Int), 0) else ([], 0, 800)).2.2) := by
      by_cases c2 : l.length < 2 ∨ l.length < b + 4
      · rw [if_pos c2]; exact hj1c c2
      · rw [if_neg c2]
        have h := hj1f c2
        by_cases c3 : two (crc ((l.take (b + 2)).drop 1)) = (l.take (b + 4)).drop (b + 2)
        · rw [if_pos c3] at h ⊢; exact h
        · rw [if_neg c3] at h ⊢; exact h
    refine Ev.step (fun k => ?_) hmid
    rw [hj0, b0, b1]
    by_cases z0 : (r.size : Int) > 0
    · have z1 : (x : Int) = 181 := by omega
      rw [if_pos z0, if_pos z0, if_pos z1]
      by_cases w1 : (r.size : Int) > 1
      · have z2 : ¬ (b : Int) < 1 := by omega
        rw [if_pos w1, if_pos w1, if_neg z2, decide_eq_false (by omega)]
      · rw [if_neg w1]
    · have w1 : ¬ (r.size : Int) > 1 := by omega
      rw [if_neg z0, if_neg w1]
theorem get_form' (s : ByteArray) (p : Int) (h : p < 0 ∨ (s.size : Int) < p) : Ev (fun k => frame_Get.f k s p) ((⟨#[]⟩ : ByteArray), 0, 800) := by
  have h0 : ∀ k, frame_Get.f k s p = frame_Get.j0 k s p true := fun k => by
    unfold frame_Get.f
    by_cases c : p < 0
    · rw [if_pos c]
    · rw [if_neg c, decide_eq_true (by omega)]
  refine Ev.congr h0 (Ev.step (fun k => ?_) (Ev.now _))
  simp only [frame_Get.j0, if_true]

/-! ### fput -/
def putF (l : List Nat) : List Nat := 181 :: (l.length :: l) ++ two (crc (l.length :: l))
theorem S_one (n : Nat) (h : n ≤ 60) : strOfNums [((n : Nat) : Int) % 256] = S [n] := by
  have e : ((n : Nat) : Int) % 256 = (n : Int) := by omega
  rw [e]; rfl
theorem L_one (n : Nat) (h : n < 256) : L (S [n]) = [n] := L_S (by simp; omega)
theorem S_mark : strOfNums [181] = S [181] := rfl
theorem S_app (a b : List Nat) : S (a ++ b) = S a ++ S b := by
  unfold S strOfNums
  rw [List.map_append, List.map_append]
  apply ByteArray.ext
  simp [ByteArray.data_append]
theorem putF_lt (l : List Nat) (h : ∀ x ∈ l, x < 256) (hn : l.length ≤ 60) : ∀ x ∈ putF l, x < 256 := by
  intro x hx
  unfold putF at hx
  rcases List.mem_append.1 hx with hx | hx
  · rcases List.mem_cons.1 hx with rfl | hx
    · decide
    · rcases List.mem_cons.1 hx with rfl | hx
      · omega
      · exact h x hx
  · exact two_lt _ x hx
theorem put_form (s : ByteArray) (h : s.size < 1 ∨ 60 < s.size) : Ev (fun k => frame_Put.f k s) ((⟨#[]⟩ : ByteArray), 800) := by
  have hj : Ev (fun k => frame_Put.j0 k s true) ((⟨#[]⟩ : ByteArray), 800) := by
    refine Ev.step (fun k => ?_) (Ev.now _)
    simp only [frame_Put.j0, if_true]
  refine Ev.congr (fun k => ?_) hj
  unfold frame_Put.f
  by_cases c : s.toList = []
  · rw [if_pos c]
  · have hn : ¬ s.size < 1 := fun z => c (by rw [toList_lit]; exact List.length_eq_zero_iff.1 (by rw [L_len]; omega))
    rw [if_neg c, decide_eq_true (by omega)]
theorem putF_bytes (s : ByteArray) (h2 : s.size ≤ 60) : (S [181] ++ (S [s.size] ++ s)) ++ S (two (crc (s.size :: L s))) = S (putF (L s)) := by
  apply L_inj
  have hl := L_len s
  rw [L_S (putF_lt (L s) (L_lt s) (by omega)), L_append, L_append, L_append, L_one _ (by decide), L_one _ (by omega), L_S (two_lt _)]
  unfold putF
  rw [hl]; rfl
theorem put_ok (s : ByteArray) (h1 : 1 ≤ s.size) (h2 : s.size ≤ 60) : Ev (fun k => frame_Put.f k s) (S (putF (L s)), 0) := by
  have hl := L_len s
  have hne : ¬ s.toList = [] := by
    rw [toList_lit]; intro z
    have : (L s).length = 0 := by rw [z]; rfl
    omega
  have h0 : ∀ k, frame_Put.f k s = frame_Put.j0 k s false := fun k => by
    unfold frame_Put.f; rw [if_neg hne, decide_eq_false (by omega)]
  refine Ev.congr h0 ?_
  have l1 : (S [s.size]).size = 1 := by rw [← L_len, L_one _ (by omega)]; rfl
  have l2 : (S [181]).size = 1 := by rw [← L_len, L_one _ (by decide)]; rfl
  have e1 : L (S [s.size] ++ s) = s.size :: L s := by rw [L_append, L_one _ (by omega)]; rfl
  have l3 : (S [s.size] ++ s).size = 1 + s.size := by rw [← L_len, e1, List.length_cons, hl]; omega
  have l4 : (S [181] ++ (S [s.size] ++ s)).size = 2 + s.size := by rw [← L_len, L_append, L_one _ (by decide), e1]; simp; omega
  have hsum := sum_ev (S [s.size] ++ s) (by omega)
  rw [e1] at hsum
  have l5 : ∀ c, (S (two c)).size = 2 := fun c => by rw [← L_len, L_S (two_lt c)]; rfl
  have hb := putF_bytes s h2
  generalize crc (s.size :: L s) = c at *
  refine Ev.step (f := fun k => (frame_Sum.f k (S [s.size] ++ s)).bind fun t => (frame_Two.f t).bind fun u => if (S [181] ++ (S [s.size] ++ s)).size + u.size ≤ 9223372036854775807 then some ((S [181] ++ (S [s.size] ++ s)) ++ u, 0) else none) (fun k => ?_) ?_
  · simp only [frame_Put.j0]
    rw [if_neg (by decide), Option.bind_some, S_one _ h2, if_pos (by omega), Option.bind_some, S_mark, if_pos (by omega)]
  · refine Ev.bind hsum ?_
    refine Ev.congr (fun k => ?_) (Ev.now _)
    rw [two_eq, Option.bind_some, if_pos (by rw [l5]; omega), hb]

/-! ### frows -/
theorem getF_row (b t r : List Nat) (n : Nat) (p : Int) (hn : b.length = n) (h1 : 1 ≤ n) (h2 : n ≤ 60) (ht : t.length = 2) :
    getF (181 :: n :: (b ++ (t ++ r))) p = if two (crc (n :: b)) = t then (b, p + ((n + 4 : Nat) : Int), 0) else ([], 0, 800) := by
  have g0 : (181 :: n :: (b ++ (t ++ r))).getD 0 0 = 181 := rfl
  have g1 : (181 :: n :: (b ++ (t ++ r))).getD 1 0 = n := rfl
  have gl : (181 :: n :: (b ++ (t ++ r))).length = n + 4 + r.length := by simp [hn, ht]; omega
  have t1 : (181 :: n :: (b ++ (t ++ r))).take (n + 2) = 181 :: n :: b := by
    rw [List.take_succ_cons, List.take_succ_cons, List.take_left' hn]
  have t2 : ((181 :: n :: (b ++ (t ++ r))).take (n + 4)).drop (n + 2) = t := by
    rw [List.drop_take, List.drop_succ_cons, List.drop_succ_cons, List.drop_left' hn, show n + 4 - (n + 2) = 2 by omega, List.take_left' ht]
  unfold getF
  rw [g0, g1, gl, t1, t2, if_neg (by omega), if_neg (by omega), List.drop_succ_cons, List.drop_zero, List.drop_succ_cons, List.drop_succ_cons, List.drop_zero]
theorem S_L0 (b : ByteArray) : S (L b) = b := L_inj (L_S (L_lt b))
/-- Frames, one behind the other. -/
def rows8 (gs : List ByteArray) : List Nat := gs.flatMap fun g => putF (L g)
theorem rows8_nil : rows8 [] = [] := rfl
theorem rows8_cons (g : ByteArray) (gs : List ByteArray) : rows8 (g :: gs) = putF (L g) ++ rows8 gs := by unfold rows8; rw [List.flatMap_cons]
theorem rows8_app (a b : List ByteArray) : rows8 (a ++ b) = rows8 a ++ rows8 b := by unfold rows8; rw [List.flatMap_append]
def okB (g : ByteArray) : Prop := 1 ≤ g.size ∧ g.size ≤ 60
theorem putF_len (g : ByteArray) : (putF (L g)).length = g.size + 4 := by unfold putF two; simp [L_len]
theorem rows8_lt (gs : List ByteArray) (h : ∀ g ∈ gs, okB g) : ∀ x ∈ rows8 gs, x < 256 := by
  intro x hx
  unfold rows8 at hx
  obtain ⟨g, hg, hx⟩ := List.mem_flatMap.1 hx
  exact putF_lt (L g) (L_lt g) (by rw [L_len]; exact (h g hg).2) x hx
theorem rows8_len (gs : List ByteArray) (h : ∀ g ∈ gs, okB g) : (rows8 gs).length ≤ 64 * gs.length := by
  induction gs with
  | nil => simp [rows8_nil]
  | cons g gs ih =>
    have h1 := h g List.mem_cons_self
    have h2 := ih (fun x hx => h x (List.mem_cons_of_mem _ hx))
    have h3 := h1.2
    rw [rows8_cons, List.length_append, putF_len, List.length_cons]
    omega
theorem getF_rows8 (g : ByteArray) (gs : List ByteArray) (h : okB g) (p : Int) : getF (rows8 (g :: gs)) p = (L g, p + ((g.size + 4 : Nat) : Int), 0) := by
  have hl := L_len g
  have hs : rows8 (g :: gs) = 181 :: g.size :: (L g ++ (two (crc (g.size :: L g)) ++ rows8 gs)) := by
    rw [rows8_cons]; unfold putF; rw [hl]; simp
  rw [hs, getF_row (L g) _ (rows8 gs) g.size p hl h.1 h.2 rfl, if_pos rfl]

theorem num8 (a : Int) : bournelaw0_Num.f a = some a := rfl
theorem up8 (i : Nat) (h : i ≤ 4611686018427387904) : wrap64 ((i : Int) + 1) = ((i + 1 : Nat) : Int) := by unfold wrap64; omega
theorem rdOf_at (l : List ByteArray) (i : Nat) (h : i < l.length) : rdOf ByteArray.empty l (i : Int) = l[i] := by
  unfold rdOf
  rw [Int.toNat_natCast, List.getD_eq_getElem?_getD, List.getElem?_eq_getElem h]; rfl
theorem rows_l1 (gs : List ByteArray) (h : ∀ g ∈ gs, okB g) (hn : gs.length ≤ 20) (d : Nat) : ∀ i : Nat, gs.length - i = d → i ≤ gs.length →
    Ev (fun k => bournelaw8_FrameRows.l1 k (S (rows8 gs)) gs (((rows8 (gs.take i)).length : Nat) : Int) (i : Int)) true := by
  have hlt := rows8_lt gs h
  have hln := rows8_len gs h
  have hsz : (S (rows8 gs)).size = (rows8 gs).length := by rw [← L_len, L_S hlt]
  induction d with
  | zero =>
    intro i hd hi
    obtain rfl : i = gs.length := by omega
    refine Ev.step (f := fun _ => some true) (fun k => ?_) (Ev.now _)
    simp only [bournelaw8_FrameRows.l1]
    rw [if_neg (by omega), List.take_length, hsz, beq_self_eq_true]
  | succ d ih =>
    intro i hd hi
    have hi2 : i < gs.length := by omega
    have hg := h gs[i] (List.getElem_mem hi2)
    have e : rows8 gs = rows8 (gs.take i) ++ rows8 (gs[i] :: gs.drop (i + 1)) := by
      rw [← rows8_app, ← List.drop_eq_getElem_cons hi2, List.take_append_drop]
    have hp : (rows8 (gs.take i)).length ≤ (S (rows8 gs)).size := by rw [hsz, e, List.length_append]; omega
    have g1 := get_ev' (S (rows8 gs)) (rows8 (gs.take i)).length hp (by omega)
    have e2 : (L (S (rows8 gs))).drop (rows8 (gs.take i)).length = rows8 (gs[i] :: gs.drop (i + 1)) := by
      rw [L_S hlt, e, List.drop_left' rfl]
    rw [e2, getF_rows8 _ _ hg] at g1
    dsimp only at g1
    rw [S_L0] at g1
    have e3 : (((rows8 (gs.take i)).length : Nat) : Int) + ((gs[i].size + 4 : Nat) : Int) = (((rows8 (gs.take (i + 1))).length : Nat) : Int) := by
      rw [List.take_succ_eq_append_getElem hi2, rows8_app, List.length_append, rows8_cons, rows8_nil, List.append_nil, putF_len]; omega
    rw [e3] at g1
    refine Ev.step (f := fun k => (frame_Get.f k (S (rows8 gs)) (((rows8 (gs.take i)).length : Nat) : Int)).bind fun bt145 => ((bournelaw0_Num.f bt145.2.2).bind fun t148 => (if t148 = 0 then (if 0 ≤ (i : Int) then (if bt145.1.toList = (rdOf ByteArray.empty gs (i : Int)).toList then (bournelaw8_FrameRows.l1 k (S (rows8 gs)) gs bt145.2.1 (wrap64 ((i : Int) + 1))) else (some false)) else (none)) else (some false)))) (fun k => ?_) ?_
    · simp only [bournelaw8_FrameRows.l1]
      rw [if_pos (by omega)]
    · refine Ev.bind g1 ?_
      refine Ev.congr (fun k => ?_) (ih (i + 1) (by omega) (by omega))
      dsimp only
      rw [num8, Option.bind_some, if_pos rfl, if_pos (by omega), rdOf_at gs i hi2, if_pos rfl, up8 i (by omega)]
theorem rows_j1f (bs : List ByteArray) (gs : List ByteArray) (i : Int) (h : ∀ g ∈ gs, okB g) (hn : gs.length ≤ 20) : Ev (fun k => bournelaw8_FrameRows.j1 k bs (S (rows8 gs)) gs i false) true := by
  have h1 := rows_l1 gs h hn gs.length 0 rfl (Nat.zero_le _)
  rw [List.take_zero, rows8_nil] at h1
  refine Ev.step (fun k => ?_) h1
  simp only [bournelaw8_FrameRows.j1]
  rfl
theorem rows_l0 (bs : List ByteArray) (hbs : bs.length ≤ 4611686018427387904) (d : Nat) : ∀ (i : Nat) (gs : List ByteArray), 20 - i = d → i ≤ bs.length → (∀ g ∈ gs, okB g) → gs.length ≤ i → i ≤ 20 →
    Ev (fun k => bournelaw8_FrameRows.l0 k bs (S (rows8 gs)) gs (i : Int)) true := by
  induction d with
  | zero =>
    intro i gs hd hi h hg h20
    by_cases hlt : i < bs.length
    · refine Ev.step (f := fun k => bournelaw8_FrameRows.j1 k bs (S (rows8 gs)) gs (i : Int) false) (fun k => ?_) (rows_j1f bs gs i h (by omega))
      simp only [bournelaw8_FrameRows.l0]
      rw [if_pos (by omega), decide_eq_false (by omega)]
    · refine Ev.step (f := fun k => bournelaw8_FrameRows.j1 k bs (S (rows8 gs)) gs (i : Int) false) (fun k => ?_) (rows_j1f bs gs i h (by omega))
      simp only [bournelaw8_FrameRows.l0]
      rw [if_neg (by omega)]
  | succ d ih =>
    intro i gs hd hi h hg h20
    by_cases hlt : i < bs.length
    · have hl0 : ∀ k, bournelaw8_FrameRows.l0 (k + 1) bs (S (rows8 gs)) gs (i : Int) = bournelaw8_FrameRows.j1 k bs (S (rows8 gs)) gs (i : Int) true := fun k => by
        simp only [bournelaw8_FrameRows.l0]
        rw [if_pos (by omega), decide_eq_true (by omega)]
      refine Ev.step hl0 ?_
      have hj : ∀ k, bournelaw8_FrameRows.j1 (k + 1) bs (S (rows8 gs)) gs (i : Int) true = (frame_Put.f k bs[i]).bind fun bt136 => ((bournelaw0_Num.f bt136.2).bind fun t138 => (if t138 = 0 then (if (S (rows8 gs)).size + bt136.1.size ≤ 9223372036854775807 then (if gs.length < 8796093022208 then (bournelaw8_FrameRows.l0 k bs ((S (rows8 gs)) ++ bt136.1) (gs ++ [bs[i]]) (wrap64 ((i : Int) + 1))) else (none)) else (none)) else (if (bs[i].size : Int) ≥ 1 then (if (bs[i].size : Int) ≤ 60 then (some false) else (bournelaw8_FrameRows.l0 k bs (S (rows8 gs)) gs (wrap64 ((i : Int) + 1)))) else (bournelaw8_FrameRows.l0 k bs (S (rows8 gs)) gs (wrap64 ((i : Int) + 1)))))) := fun k => by
        simp only [bournelaw8_FrameRows.j1]
        rw [if_pos (by decide), if_pos (by omega), if_pos (by omega), rdOf_at bs i hlt]
      refine Ev.step hj ?_
      have hlts := rows8_lt gs h
      have hlen := rows8_len gs h
      have hsz : (S (rows8 gs)).size = (rows8 gs).length := by rw [← L_len, L_S hlts]
      by_cases hok : okB bs[i]
      · refine Ev.bind (put_ok bs[i] hok.1 hok.2) ?_
        have h2 : ∀ g ∈ gs ++ [bs[i]], okB g := fun g hg => by
          rcases List.mem_append.1 hg with hg | hg
          · exact h g hg
          · rw [List.mem_singleton.1 hg]; exact hok
        have hp := putF_lt (L bs[i]) (L_lt bs[i]) (by rw [L_len]; exact hok.2)
        have hz2 : (S (putF (L bs[i]))).size ≤ 64 := by rw [← L_len, L_S hp, putF_len]; have := hok.2; omega
        have e : S (rows8 gs) ++ S (putF (L bs[i])) = S (rows8 (gs ++ [bs[i]])) := by
          rw [rows8_app, rows8_cons, rows8_nil, List.append_nil, S_app]
        refine Ev.congr (fun k => ?_) (ih (i + 1) (gs ++ [bs[i]]) (by omega) (by omega) h2 (by simp; omega) (by omega))
        dsimp only
        rw [num8, Option.bind_some, if_pos rfl, if_pos (by omega), if_pos (by omega), up8 i (by omega), e]
      · have hno : bs[i].size < 1 ∨ 60 < bs[i].size := by unfold okB at hok; omega
        refine Ev.bind (put_form bs[i] hno) ?_
        refine Ev.congr (fun k => ?_) (ih (i + 1) gs (by omega) (by omega) h (by omega) (by omega))
        dsimp only
        rw [num8, Option.bind_some, if_neg (by decide), up8 i (by omega)]
        by_cases c1 : (bs[i].size : Int) ≥ 1
        · rw [if_pos c1, if_neg (by omega)]
        · rw [if_neg c1]
    · refine Ev.step (f := fun k => bournelaw8_FrameRows.j1 k bs (S (rows8 gs)) gs (i : Int) false) (fun k => ?_) (rows_j1f bs gs i h (by omega))
      simp only [bournelaw8_FrameRows.l0]
      rw [if_neg (by omega)]
theorem rows_ev (bs : List ByteArray) (hbs : bs.length ≤ 4611686018427387904) : ∃ k, bournelaw8_FrameRows.f k bs = some true := by
  obtain ⟨k, hk⟩ := (rows_l0 bs hbs 20 0 [] rfl (Nat.zero_le _) (fun g hg => by cases hg) (Nat.zero_le _) (Nat.zero_le _)).rounds
  refine ⟨k, ?_⟩
  unfold bournelaw8_FrameRows.f
  rw [show bournelaw8_awake.f k = some true from rfl, Option.bind_some, if_pos rfl]
  exact hk
theorem rows_walk (A : Option Addr) (c : Nat) (l : List ByteArray) (w : World) (hC : Kd.C Kd.string w A l.length l) (hl : l.length ≤ c) (g : l.length * 16 ≤ 140737488351232 ∧ ∀ s ∈ l, s.size ≤ 140737488351232) :
    Calls Try.prog 6 #[.slice A l.length c] w fun e w' => e = .returned (.bool true) ∧ Below w.heap.size w w' := by
  obtain ⟨k, hk⟩ := rows_ev l (by omega)
  exact bournelaw8_FrameRows.calls k A c l true w hC hl hk

end Go.Proofs.Ytpnkkaociipojaa.Pure
