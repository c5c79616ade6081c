/- The reference's scanner is the one on lists. No condition. -/
import Derived.Test.YtmccgkbbgicglaaScanAwakePureR
namespace Go.Proofs.Ytmccgkbbgicglaa.ScanRefP
open Go.RowKit Go.Proofs.Ytmccgkbbgicglaa.QScanRef Go.Proofs.Ytmccgkbbgicglaa.ScanPureR Go.Proofs.Ytmccgkbbgicglaa.ScanAwakePureR Go.Proofs.YtmccgkbbgicglaaW.PrintWords Go.Proofs.YtmccgkbbgicglaaW.PrintLast Go.Proofs.YtmccgkbbgicglaaW.PrintMore
set_option linter.unusedVariables false
set_option linter.unusedSimpArgs false

/-! ### scancut0 -/
def cntO (x : S49) : Int := if x.f0 = 3 then x.f4 else ((fr x).length : Int)
def cnt : List S49 → Int
  | [] => 0
  | x :: xs => cntO x + cnt xs
theorem cnt_app (a b : List S49) : cnt (a ++ b) = cnt a + cnt b := by
  induction a with
  | nil => simp [cnt]
  | cons x xs ih => rw [List.cons_append, cnt, ih, cnt, Int.add_assoc]
theorem cnt_tell (o : List S49) (b : Int) : cnt (tell o b) = cnt o + b := by
  unfold tell
  split
  · omega
  · rw [cnt_app]; simp [cnt, cntO]
theorem may5_kind {x : S49} (h : may5 x = true) : x.f0 ≠ 3 := by
  have := oMay_rng (show oMay x.f0 x.f1 x.f2 x.f3 x.f4 = true from h); omega
def okO (x : S49) : Prop := 0 ≤ cntO x
theorem okO_fr {x : S49} (h : may5 x = true) : okO x := by unfold okO cntO; rw [if_neg (may5_kind h)]; omega
theorem ok_tell {o : List S49} {b : Int} (h : ∀ x ∈ o, okO x) (hb : 0 ≤ b) : ∀ x ∈ tell o b, okO x := by
  intro x hx
  unfold tell at hx
  split at hx
  · exact h x hx
  · rcases List.mem_append.1 hx with hx | hx
    · exact h x hx
    · rw [List.mem_singleton.1 hx]; show 0 ≤ cntO _; unfold cntO; rw [if_pos rfl]; exact hb
theorem cnt_nn {o : List S49} (h : ∀ x ∈ o, okO x) : 0 ≤ cnt o := by
  induction o with
  | nil => exact Int.le_refl _
  | cons x xs ih =>
    have h1 : 0 ≤ cntO x := h x (List.mem_cons_self ..)
    have h2 := ih (fun y hy => h y (List.mem_cons_of_mem _ hy))
    rw [cnt]; omega
theorem run_count {last : Bool} {l : List Nat} {o : List S49} {b : Int} {o' : List S49} {l' : List Nat} {b' : Int} (h : Run last l o b o' l' b') :
    (∀ y ∈ l, y < 256) → 0 ≤ b → b + l.length ≤ 1073741823 → (∀ x ∈ o, okO x) → cnt o' + b' + l'.length = cnt o + b + l.length ∧ 0 ≤ b' ∧ b' ≤ 1073741823 ∧ (∀ x ∈ o', okO x) ∧ o'.length + l'.length ≤ o.length + l.length := by
  induction h with
  | nil o b => intro _ h0 h1 ho; exact ⟨by simp, h0, by simpa using h1, ho, by simp⟩
  | cut l o b _ _ _ => intro _ h0 h1 ho; exact ⟨rfl, h0, by omega, ho, Nat.le_refl _⟩
  | bad c t o b o' l' b' _ _ _ ih =>
    intro hb h0 h1 ho
    rw [List.length_cons] at h1
    have e := bump_eq (b := b) (by omega)
    obtain ⟨i1, i2, i3, i4, i5⟩ := ih (fun y hy => hb y (List.mem_cons_of_mem _ hy)) (by omega) (by omega) ho
    rw [List.length_cons]
    exact ⟨by omega, i2, i3, i4, by omega⟩
  | op l o b x n o' l' b' hh _ ih =>
    intro hb h0 h1 ho
    obtain ⟨hm, hf, hn⟩ := hit_inv hb hh
    have hl := hit_len hh
    have hd : (l.drop n).length = l.length - n := List.length_drop ..
    obtain ⟨i1, i2, i3, i4, i5⟩ := ih (fun y hy => hb y (List.mem_of_mem_drop hy)) (Int.le_refl _) (by omega) (fun y hy => by
      rcases List.mem_append.1 hy with hy | hy
      · exact ok_tell ho h0 y hy
      · rw [List.mem_singleton.1 hy]; exact okO_fr hm)
    rw [cnt_app, cnt_tell] at i1
    have e : cnt [x] = (n : Int) := by simp only [cnt, cntO]; rw [if_neg (may5_kind hm), hn]; omega
    have ht := tell_len o b
    rw [List.length_append, List.length_singleton] at i5
    exact ⟨by omega, i2, i3, i4, by omega⟩
theorem run_true (n : Nat) : ∀ (l : List Nat) (o : List S49) (b : Int), l.length = n → ∃ o' b', Run true l o b o' [] b' := by
  induction n using Nat.strongRecOn with
  | _ n ih =>
    intro l o b hl
    cases l with
    | nil => exact ⟨o, b, Run.nil o b⟩
    | cons c t =>
      cases e : hit (c :: t) with
      | none =>
        rw [List.length_cons] at hl
        obtain ⟨o', b', h⟩ := ih t.length (by omega) t o (bump b) rfl
        exact ⟨o', b', Run.bad c t o b o' [] b' (fun _ => rfl) e h⟩
      | some q =>
        obtain ⟨x, m⟩ := q
        have hm := hit_len e
        obtain ⟨o', b', h⟩ := ih ((c :: t).drop m).length (by rw [List.length_drop]; omega) _ (tell o b ++ [x]) 0 rfl
        exact ⟨o', b', Run.op (c :: t) o b x m o' [] b' e h⟩
def led (o : List S49) : Prop := ∃ x r, o = x :: r ∧ x.f0 = 3
theorem led_app {o : List S49} (h : led o) (r : List S49) : led (o ++ r) := by
  obtain ⟨x, t, rfl, hx⟩ := h
  exact ⟨x, t ++ r, by simp, hx⟩
theorem led_tell {o : List S49} {b : Int} (h : led o ∨ o = [] ∧ 1 ≤ b) : led (tell o b) := by
  unfold tell
  rcases h with h | ⟨rfl, hb⟩
  · split
    · exact h
    · exact led_app h _
  · rw [if_neg (by omega)]; exact ⟨_, [], rfl, rfl⟩
theorem run_led {last : Bool} {l : List Nat} {o : List S49} {b : Int} {o' : List S49} {l' : List Nat} {b' : Int} (h : Run last l o b o' l' b') :
    0 ≤ b → b + l.length ≤ 1073741823 → (led o ∨ o = [] ∧ 1 ≤ b) → led o' ∨ o' = [] ∧ 1 ≤ b' := by
  induction h with
  | nil o b => intro _ _ h; exact h
  | cut l o b _ _ _ => intro _ _ h; exact h
  | bad c t o b o' l' b' _ _ _ ih =>
    intro h0 h1 h
    rw [List.length_cons] at h1
    have e := bump_eq (b := b) (by omega)
    exact ih (by omega) (by omega) (h.imp id (fun z => ⟨z.1, by omega⟩))
  | op l o b x n o' l' b' hh _ ih =>
    intro h0 h1 h
    have hd : (l.drop n).length ≤ l.length := by rw [List.length_drop]; omega
    exact ih (Int.le_refl _) (by omega) (.inl (led_app (led_tell h) _))
theorem rd_at (l : List S49) (i : Nat) (h : i < l.length) : rd_T49 l (i : Int) = l[i] := by
  unfold rd_T49
  rw [Int.toNat_natCast, List.getD_eq_getElem?_getD, List.getElem?_eq_getElem h]; rfl
theorem cnt_take (l : List S49) (i : Nat) (h : i < l.length) : cnt (l.take (i + 1)) = cnt (l.take i) + cntO l[i] := by
  rw [List.take_succ_eq_append_getElem h, cnt_app]; simp [cnt]
theorem toList_S {l : List Nat} (h : ∀ y ∈ l, y < 256) : ((S l).toList = ([] : List UInt8)) ↔ l = [] := by
  rw [toList_lit, L_S h]; rfl
theorem S_nil_l : (S []).toList = ([] : List UInt8) := (toList_S (fun _ h => by cases h)).2 rfl
theorem waits_ev (s : ByteArray) (b : Int) : scan_Scanner_Waits.f s b = some (s, s, b) := rfl
theorem bad_ev (s : ByteArray) (b : Int) : scan_Scanner_Bad.f s b = some (b, s, b) := rfl
theorem take_lt {l : List Nat} (h : ∀ y ∈ l, y < 256) (n : Nat) : ∀ y ∈ l.take n, y < 256 := fun y hy => h y (List.mem_of_mem_take hy)

/-! ### scanrun -/
theorem run_facts {last : Bool} {l : List Nat} {o : List S49} {b : Int} {o' : List S49} {l' : List Nat} {b' : Int} (h : Run last l o b o' l' b') :
    (∀ y ∈ l, y < 256) → 0 ≤ b → b ≤ 1073741823 → 0 ≤ b' ∧ b' ≤ 1073741823 ∧ o'.length + l'.length ≤ o.length + l.length ∧ (∀ y ∈ l', y < 256) ∧ l'.length ≤ l.length := by
  induction h with
  | nil o b => intro hb h0 h1; exact ⟨h0, h1, Nat.le_refl _, hb, Nat.le_refl _⟩
  | cut l o b _ _ _ => intro hb h0 h1; exact ⟨h0, h1, Nat.le_refl _, hb, Nat.le_refl _⟩
  | bad c t o b o' l' b' _ _ _ ih =>
    intro hb h0 h1
    have e := bump_le b h0 h1
    obtain ⟨i1, i2, i3, i4, i5⟩ := ih (fun y hy => hb y (List.mem_cons_of_mem _ hy)) e.1 e.2
    rw [List.length_cons]
    exact ⟨i1, i2, by omega, i4, by omega⟩
  | op l o b x n o' l' b' hh _ ih =>
    intro hb h0 h1
    have hl := hit_len hh
    have hd : (l.drop n).length = l.length - n := List.length_drop ..
    obtain ⟨i1, i2, i3, i4, i5⟩ := ih (fun y hy => hb y (List.mem_of_mem_drop hy)) (Int.le_refl _) (by decide)
    have ht := tell_len o b
    rw [List.length_append, List.length_singleton] at i3
    exact ⟨i1, i2, by omega, i4, by omega⟩
theorem run_cutend {last : Bool} {l : List Nat} {o : List S49} {b : Int} {o' : List S49} {l' : List Nat} {b' : Int} (h : Run last l o b o' l' b') : l' = [] ∨ isCut l' = true := by
  induction h with
  | nil o b => exact .inl rfl
  | cut l o b _ hc _ => exact .inr hc
  | bad c t o b o' l' b' _ _ _ ih => exact ih
  | op l o b x n o' l' b' hh _ ih => exact ih
theorem run_ex (last : Bool) (n : Nat) : ∀ (l : List Nat) (o : List S49) (b : Int), l.length = n → ∃ o' l' b', Run last l o b o' l' b' := by
  induction n using Nat.strongRecOn with
  | _ n ih =>
    intro l o b hl
    cases l with
    | nil => exact ⟨o, [], b, Run.nil o b⟩
    | cons c t =>
      rw [List.length_cons] at hl
      by_cases hc : isCut (c :: t) = true ∧ last = false
      · exact ⟨o, c :: t, b, Run.cut _ o b (by simp) hc.1 hc.2⟩
      · have hc2 : isCut (c :: t) = true → last = true := fun z => by
          cases last with
          | true => rfl
          | false => exact absurd ⟨z, rfl⟩ hc
        cases e : hit (c :: t) with
        | none =>
          obtain ⟨o', l', b', h⟩ := ih t.length (by omega) t o (bump b) rfl
          exact ⟨o', l', b', Run.bad c t o b o' l' b' hc2 e h⟩
        | some q =>
          obtain ⟨x, m⟩ := q
          have hm := hit_len e
          obtain ⟨o', l', b', h⟩ := ih ((c :: t).drop m).length (by rw [List.length_drop, List.length_cons]; omega) _ (tell o b ++ [x]) 0 rfl
          exact ⟨o', l', b', Run.op (c :: t) o b x m o' l' b' e h⟩
/-- What a writing answers: some operations, what waits. -/
theorem write_ex (w s : ByteArray) (hs : w.size + s.size ≤ 100000000) {b : Int} (h0 : 0 ≤ b) (h1 : b ≤ 1073741823) :
    ∃ (o' : List S49) (l' : List Nat) (b' : Int), Run false (L w ++ L s) [] b o' l' b' ∧ Ev (fun k => scan_Scanner_Write.f k w b s) (o', S l', b') ∧ 0 ≤ b' ∧ b' ≤ 1073741823 ∧ o'.length ≤ 100000000 ∧ (∀ y ∈ l', y < 256) ∧ (S l').size ≤ w.size + s.size ∧ (l' = [] ∨ isCut l' = true) := by
  obtain ⟨o', l', b', h⟩ := run_ex false _ (L w ++ L s) [] b rfl
  have hlt : ∀ y ∈ L w ++ L s, y < 256 := fun y hy => by
    rcases List.mem_append.1 hy with hy | hy
    · exact L_lt w y hy
    · exact L_lt s y hy
  obtain ⟨f1, f2, f3, f4, f5⟩ := run_facts h hlt h0 h1
  have hl : (L w ++ L s).length = w.size + s.size := by rw [List.length_append, L_len, L_len]
  have hz := S_size f4
  rw [List.length_nil] at f3
  exact ⟨o', l', b', h, scan_write w s (by omega) h0 h1 h, f1, f2, by omega, f4, by omega, run_cutend h⟩
theorem close_ex (w : ByteArray) (hs : w.size ≤ 100000000) {b : Int} (h0 : 0 ≤ b) (h1 : b ≤ 1073741823) :
    ∃ (o' : List S49) (b' : Int), Run true (L w) [] b o' [] b' ∧ Ev (fun k => scan_Scanner_Close.f k w b) (tell o' b', S [], 0) ∧ (tell o' b').length ≤ 100000001 := by
  obtain ⟨o', b', h⟩ := run_true _ (L w) [] b rfl
  obtain ⟨f1, f2, f3, f4, f5⟩ := run_facts h (L_lt w) h0 h1
  have hl := L_len w
  have ht := tell_len o' b'
  rw [List.length_nil, List.length_nil] at f3
  exact ⟨o', b', h, scan_close w (by omega) h0 h1 h, by omega⟩

/-! ### rframeg -/
theorem drop_getD (l : List Nat) (p i : Nat) : (l.drop p).getD i 0 = l.getD (p + i) 0 := by
  rw [List.getD_eq_getElem?_getD, List.getD_eq_getElem?_getD, List.getElem?_drop]
theorem two_at (l : List Nat) (n : Nat) (h : n + 2 ≤ l.length) (c : Nat) (hc : c < 65536) : two c = (l.take (n + 2)).drop n ↔ l.getD n 0 = c / 256 ∧ l.getD (n + 1) 0 = c % 256 := by
  have e : (l.take (n + 2)).drop n = [l.getD n 0, l.getD (n + 1) 0] := by
    apply List.ext_getElem
    · simp; omega
    · intro i h1 h2
      simp at h2
      rw [List.getElem_drop, List.getElem_take]
      have : i = 0 ∨ i = 1 := by omega
      rcases this with rfl | rfl
      · simp [List.getD_eq_getElem?_getD, List.getElem?_eq_getElem (show n < l.length by omega)]
      · simp [List.getD_eq_getElem?_getD, List.getElem?_eq_getElem (show n + 1 < l.length by omega)]
  rw [e]
  unfold two
  constructor
  · intro h
    simp only [List.cons.injEq, and_true] at h
    omega
  · rintro ⟨a, b⟩
    rw [a, b]
    congr 1; omega
theorem w_r (p b : Nat) (hp : p ≤ 4611686018427387904) (hb : b < 256) : wrap64 ((p : Int) + 1) = ((p + 1 : Nat) : Int) ∧ wrap64 (wrap64 ((p : Int) + 2) + (b : Int)) = ((p + (b + 2) : Nat) : Int) ∧ wrap64 (wrap64 ((p : Int) + 3) + (b : Int)) = ((p + (b + 3) : Nat) : Int) ∧ wrap64 (wrap64 ((p : Int) + 4) + (b : Int)) = (p : Int) + ((b + 4 : Nat) : Int) ∧ wrap64 ((p : Int) + 2) = ((p + 2 : Nat) : Int) ∧ wrap64 ((b : Int) + 4) = ((b + 4 : Nat) : Int) ∧ wrap64 (b : Int) = (b : Int) := by
  refine ⟨?_, ?_, ?_, ?_, ?_, ?_, ?_⟩
  · rw [wrap64_id (by omega) (by omega)]; omega
  · rw [wrap64_id (n := (p : Int) + 2) (by omega) (by omega), wrap64_id (by omega) (by omega)]; omega
  · rw [wrap64_id (n := (p : Int) + 3) (by omega) (by omega), wrap64_id (by omega) (by omega)]; omega
  · rw [wrap64_id (n := (p : Int) + 4) (by omega) (by omega), wrap64_id (by omega) (by omega)]; omega
  · rw [wrap64_id (by omega) (by omega)]; omega
  · rw [wrap64_id (by omega) (by omega)]; omega
  · exact wrap64_id (by omega) (by omega)
theorem byte_lt (l : List Nat) (h : ∀ y ∈ l, y < 256) (i : Nat) : l.getD i 0 < 256 := by
  rw [List.getD_eq_getElem?_getD]
  by_cases c : i < l.length
  · rw [List.getElem?_eq_getElem c]; exact h _ (List.getElem_mem c)
  · rw [List.getElem?_eq_none (by omega)]; decide
theorem w_subf (n p : Nat) (h : n ≤ 4611686018427387904) (hp : p ≤ n) : wrap64 ((n : Int) - (p : Int)) = ((n - p : Nat) : Int) := by
  rw [wrap64_id (by omega) (by omega)]; omega
theorem and255 (c : Nat) : Go.bits .and .i64 (c : Int) 255 = ((c % 256 : Nat) : Int) := by
  rw [and_m _ 8 255 256 (by decide) rfl rfl]; omega
theorem rgetf_ev (s : ByteArray) (p : Nat) (hp : p ≤ s.size) (hs : s.size ≤ 4611686018427387904) :
    Ev (fun k => bourneref1_GetFrame.f k s (p : Int)) (S (getF ((L s).drop p) (p : Int)).1, (getF ((L s).drop p) (p : Int)).2.1, (getF ((L s).drop p) (p : Int)).2.2) := by
  have hl := L_len s
  have hll : ((L s).drop p).length = s.size - p := by rw [List.length_drop, hl]
  have hlt : ∀ y ∈ (L s).drop p, y < 256 := fun y hy => L_lt s y (List.mem_of_mem_drop hy)
  have hgl : ∀ i, ((L s).drop p).getD i 0 < 256 := by
    intro i
    rw [List.getD_eq_getElem?_getD]
    by_cases c : i < ((L s).drop p).length
    · rw [List.getElem?_eq_getElem c]; exact hlt _ (List.getElem_mem c)
    · rw [List.getElem?_eq_none (by omega)]; decide
  have hbt : ∀ i : Nat, bt s ((p + i : Nat) : Int) = ((((L s).drop p).getD i 0 : Nat) : Int) := fun i => by
    rw [bt_L, Int.toNat_natCast, drop_getD]
  have hx : ∀ n m, s.extract (p + n) (p + m) = S ((((L s).drop p).take m).drop n) := fun n m => by
    apply L_inj
    rw [L_S (fun y hy => hlt y (List.mem_of_mem_take (List.mem_of_mem_drop hy))), L_extract, List.take_drop, List.drop_drop]
  have q1 : ¬ ((p : Int) < 0) := by omega
  have q2 : ¬ ((p : Int) > (s.size : Int)) := by omega
  have q3 : (0 : Int) ≤ (p : Int) := by omega
  have q5 : p ≤ 4611686018427387904 := by omega
  have h0 : ∀ k, bourneref1_GetFrame.f k s (p : Int) = bourneref1_GetFrame.j0 k s (p : Int) false := fun k => by
    unfold bourneref1_GetFrame.f; rw [if_neg q1, decide_eq_false q2]
  refine Ev.congr h0 ?_
  clear h0
  have b0 : Aside0 (bt s (p : Int) = ((((L s).drop p).getD 0 0 : Nat) : Int)) := ⟨hbt 0⟩
  have b1 := Aside0.mk (hbt 1)
  have hg1 := hgl 1
  have U := Aside0.mk (w_r p (((L s).drop p).getD 1 0) q5 hg1)
  have hsumE : ∀ b, b < 256 → p + (b + 2) ≤ s.size → Ev (fun k => bourneref1_Sum.f k (s.extract (p + 1) (p + (b + 2)))) ((crc ((((L s).drop p).take (b + 2)).drop 1) : Nat) : Int) := fun b hb hle => by
    have := rsum_ev (s.extract (p + 1) (p + (b + 2))) (by rw [← L_len, L_extract, List.length_drop, List.length_take]; omega)
    rw [hx, L_S (fun y hy => hlt y (List.mem_of_mem_take (List.mem_of_mem_drop hy)))] at this
    rw [hx]; exact this
  have hcl : ∀ b, crc ((((L s).drop p).take (b + 2)).drop 1) < 65536 := fun b => crc_lt _ (fun y hy => hlt y (List.mem_of_mem_take (List.mem_of_mem_drop hy)))
  have hx2 := fun b => hx 2 b
  have b2 := Aside0.mk (hbt (((L s).drop p).getD 1 0 + 2))
  have b3 := Aside0.mk (hbt (((L s).drop p).getD 1 0 + 3))
  clear hbt hx hgl
  generalize (L s).drop p = l at *
  have htw := two_at l (l.getD 1 0 + 2)
  unfold getF
  generalize hx0 : l.getD 0 0 = x at *
  generalize hb1 : l.getD 1 0 = b at *
  by_cases e0 : (p : Int) = (s.size : Int)
  · have z : l.length = 0 := by omega
    rw [if_neg (by omega), if_pos (by omega)]
    refine Ev.step (fun k => ?_) (Ev.now _)
    simp only [bourneref1_GetFrame.j0]
    rw [if_neg (by decide), if_pos e0]; rfl
  · have q4 : (p : Int) < (s.size : Int) := by omega
    have z0 : 0 < l.length := by omega
    have hj0 : ∀ k, bourneref1_GetFrame.j0 (k + 1) s (p : Int) false = _ := fun k => by
      simp only [bourneref1_GetFrame.j0]
      rw [if_neg (by decide), if_neg e0, if_pos q3, if_pos q4, b0.out, U.out.1, b1.out, U.out.2.2.2.2.2.2]
    by_cases c0 : x = 181
    · have c0' : (x : Int) = 181 := by omega
      by_cases e1 : ((p + 1 : Nat) : Int) = (s.size : Int)
      · rw [if_neg (by omega), if_pos (by omega)]
        refine Ev.step (fun k => ?_) (Ev.now _)
        rw [hj0, if_pos c0', if_pos e1]; rfl
      · have q6 : (0 : Int) ≤ ((p + 1 : Nat) : Int) := by omega
        have q7 : ((p + 1 : Nat) : Int) < (s.size : Int) := by omega
        by_cases c1 : b < 1 ∨ 60 < b
        · rw [if_pos (Or.inr ⟨by omega, c1⟩)]
          refine Ev.step (f := fun k => bourneref1_GetFrame.j1 k s (p : Int) (b : Int) true) (fun k => ?_) ?_
          · rw [hj0, if_pos c0', if_neg e1, if_pos q6, if_pos q7]
            by_cases c2 : (b : Int) < 1
            · rw [if_pos c2]
            · rw [if_neg c2, decide_eq_true (by omega)]
          · refine Ev.step (fun k => ?_) (Ev.now _)
            simp only [bourneref1_GetFrame.j1, if_true]; rfl
        · have c2 : ¬ (b : Int) < 1 := by omega
          rw [if_neg (by omega)]
          refine Ev.step (f := fun k => bourneref1_GetFrame.j1 k s (p : Int) (b : Int) false) (fun k => ?_) ?_
          · rw [hj0, if_pos c0', if_neg e1, if_pos q6, if_pos q7, if_neg c2, decide_eq_false (by omega)]
          · have hw := Aside0.mk (w_subf s.size p hs hp)
            by_cases c3 : s.size - p < b + 4
            · rw [if_pos (by omega)]
              refine Ev.step (fun k => ?_) (Ev.now _)
              simp only [bourneref1_GetFrame.j1]
              rw [if_neg (by decide), hw.out, U.out.2.2.2.2.2.1, if_pos (by omega)]; rfl
            · rw [if_neg (by omega)]
              have hle : p + (b + 2) ≤ s.size := by omega
              have hS := hsumE b hg1 hle
              have hC := hcl b
              have htw := htw (by omega)
              generalize crc ((l.take (b + 2)).drop 1) = c at *
              have htw := htw c hC
              rw [show b + 2 + 2 = b + 4 by omega, show b + 2 + 1 = b + 3 by omega] at htw
              have r1 : ¬ (((s.size - p : Nat) : Int) < ((b + 4 : Nat) : Int)) := by omega
              have r2 : ((p + 1 : Nat) : Int) ≤ ((p + (b + 2) : Nat) : Int) := by omega
              have r3 : ((p + (b + 2) : Nat) : Int) ≤ (s.size : Int) := by omega
              have r4 : (0 : Int) ≤ ((p + (b + 2) : Nat) : Int) := by omega
              have r5 : ((p + (b + 2) : Nat) : Int) < (s.size : Int) := by omega
              have r6 : (0 : Int) ≤ ((p + (b + 3) : Nat) : Int) := by omega
              have r7 : ((p + (b + 3) : Nat) : Int) < (s.size : Int) := by omega
              have r8 : (0 : Int) ≤ ((p + 2 : Nat) : Int) := by omega
              have r9 : ((p + 2 : Nat) : Int) ≤ ((p + (b + 2) : Nat) : Int) := by omega
              have hbb2 : l.getD (b + 2) 0 < 256 := byte_lt l hlt _
              have hbb3 : l.getD (b + 3) 0 < 256 := byte_lt l hlt _
              have v2 := Aside0.mk (wrap64_id (n := ((l.getD (b + 2) 0 : Nat) : Int)) (by omega) (by omega))
              have v3 := Aside0.mk (wrap64_id (n := ((l.getD (b + 3) 0 : Nat) : Int)) (by omega) (by omega))
              refine Ev.step (f := fun k => (bourneref1_Sum.f k (s.extract (p + 1) (p + (b + 2)))).bind fun t => if ((l.getD (b + 2) 0 : Nat) : Int) = t / 256 then (if ((l.getD (b + 3) 0 : Nat) : Int) = Go.bits .and .i64 t 255 then some (s.extract (p + 2) (p + (b + 2)), (p : Int) + ((b + 4 : Nat) : Int), 0) else some ((⟨#[]⟩ : ByteArray), 0, 800)) else some ((⟨#[]⟩ : ByteArray), 0, 800)) (fun k => ?_) ?_
              · simp only [bourneref1_GetFrame.j1]
                rw [if_neg (by decide), hw.out, U.out.2.2.2.2.2.1, U.out.1, U.out.2.1, U.out.2.2.1, U.out.2.2.2.1, U.out.2.2.2.2.1, if_neg r1, if_pos q6, if_pos r2, if_pos r3, b2.out, b3.out, v2.out, v3.out]
                simp only [if_pos r4, if_pos r5, if_pos r6, if_pos r7, if_pos r8, if_pos r9, Int.toNat_natCast]
              · refine Ev.bind hS ?_
                by_cases g1 : l.getD (b + 2) 0 = c / 256
                · by_cases g2 : l.getD (b + 3) 0 = c % 256
                  · rw [if_pos (htw.2 ⟨g1, g2⟩), ← hx2]
                    exact Ev.congr (fun k => by rw [if_pos (by omega), and255, if_pos (by omega)]) (Ev.now _)
                  · rw [if_neg (fun h => g2 (htw.1 h).2)]
                    exact Ev.congr (fun k => by rw [if_pos (by omega), and255, if_neg (by omega), S_nil]) (Ev.now _)
                · rw [if_neg (fun h => g1 (htw.1 h).1)]
                  exact Ev.congr (fun k => by rw [if_neg (by omega), S_nil]) (Ev.now _)
    · rw [if_pos (Or.inl ⟨z0, c0⟩)]
      refine Ev.step (fun k => ?_) (Ev.now _)
      rw [hj0, if_neg (by omega)]; rfl
theorem rgetf_form (s : ByteArray) (p : Int) (h : p < 0 ∨ (s.size : Int) < p) : Ev (fun k => bourneref1_GetFrame.f k s p) ((⟨#[]⟩ : ByteArray), 0, 800) := by
  have h0 : ∀ k, bourneref1_GetFrame.f k s p = bourneref1_GetFrame.j0 k s p true := fun k => by
    unfold bourneref1_GetFrame.f
    by_cases c : p < 0
    · rw [if_pos c]
    · rw [if_neg c, decide_eq_true (by omega)]
  refine Ev.congr h0 (Ev.step (fun k => ?_) (Ev.now _))
  simp only [bourneref1_GetFrame.j0, if_true]

/-! ### vrefg -/
theorem ror_sh (l : List Nat) (i c : Nat) (hil : i ≤ l.length) (h9 : i ≤ 9) (hc : c < 128) (hc9 : i < 9 ∨ c ≤ 1) :
    Go.bits .or .u64 ((val (l.take i) : Nat) : Int) (shl .u64 ((c : Nat) : Int) ((7 * i : Nat) : Int)) = ((val (l.take i) + 128 ^ i * c : Nat) : Int) := by
  have hvl := val_lt (l.take i)
  rw [List.length_take, Nat.min_eq_left hil] at hvl
  have hp7 : (128 : Nat) ^ i = 2 ^ (7 * i) := by rw [show (128 : Nat) = 2 ^ 7 from rfl, ← Nat.pow_mul]
  have hv64 : val (l.take i) < 2 ^ 64 := by
    have : (128 : Nat) ^ i ≤ 128 ^ 9 := Nat.pow_le_pow_right (by decide) (by omega)
    exact Nat.lt_of_lt_of_le hvl (Nat.le_trans this (by decide))
  have hpb : 128 ^ i * c < 18446744073709551616 := by
    rcases hc9 with h9 | h1
    · have h1 : (128 : Nat) ^ i ≤ 128 ^ 8 := Nat.pow_le_pow_right (by decide) (by omega)
      have h2 : 128 ^ i * c ≤ 128 ^ 8 * 127 := Nat.mul_le_mul h1 (by omega)
      exact Nat.lt_of_le_of_lt h2 (by decide)
    · have h1' : (128 : Nat) ^ i ≤ 128 ^ 9 := Nat.pow_le_pow_right (by decide) (by omega)
      have h2 : 128 ^ i * c ≤ 128 ^ 9 * 1 := Nat.mul_le_mul h1' h1
      exact Nat.lt_of_le_of_lt h2 (by decide)
  have hsl : shl .u64 ((c : Nat) : Int) ((7 * i : Nat) : Int) = ((128 ^ i * c : Nat) : Int) := by
    unfold shl
    rw [Int.toNat_natCast, Nat.min_eq_left (by show 7 * i ≤ 64; omega), show ((2 : Int) ^ (7 * i)) = ((2 ^ (7 * i) : Nat) : Int) by simp, ← hp7, ← Int.natCast_mul, Nat.mul_comm c]
    exact wrap_u64_id (by omega) (by omega)
  rw [hsl]
  generalize val (l.take i) = v at *
  have := (bits_nat .u64 64 (Nat.le_refl _) (fun n h0 h1 => wrap_u64_id h0 (by simpa using h1)) v (128 ^ i * c) hv64 (by simpa using hpb)).2
  rw [this, Nat.or_comm, hp7, ← Nat.two_pow_add_eq_or_of_lt (by rw [← hp7]; exact hvl), Nat.add_comm]
theorem rfin (v p i : Nat) (hv : v < 18446744073709551616) (hp : p ≤ 4611686018427387904) (hi : i ≤ 10) :
    (if (Go.bits .and .u64 (v : Int) 1) = 1 then (some (wrap64 ((wrap64 (-(wrap64 ((v : Int) / 2)))) - 1), wrap64 ((wrap64 ((p : Int) + (i : Int))) + 1), (0 : Int))) else (some (wrap64 ((v : Int) / 2), wrap64 ((wrap64 ((p : Int) + (i : Int))) + 1), 0)))
      = some (unzig v, (p : Int) + ((i + 1 : Nat) : Int), 0) := by
  have w1 : wrap64 (wrap64 ((p : Int) + (i : Int)) + 1) = (p : Int) + ((i + 1 : Nat) : Int) := by
    rw [wrap64_id (n := (p : Int) + (i : Int)) (by omega) (by omega), wrap64_id (by omega) (by omega)]; omega
  rw [and64_one v hv, w1, show (v : Int) / 2 = ((v / 2 : Nat) : Int) by omega, wrap64_id (n := ((v / 2 : Nat) : Int)) (by omega) (by omega)]
  clear w1
  unfold unzig
  by_cases c : v % 2 = 0
  · rw [if_neg (by omega), if_pos c]
  · rw [if_pos (by omega), if_neg c, wrap64_id (n := -((v / 2 : Nat) : Int)) (by omega) (by omega), wrap64_id (by omega) (by omega)]
theorem getS_small (l : List Nat) (p : Int) (i : Nat) (hlt : i < l.length) (h9 : i < 10) (hf : fin (l.take i) = 0) (hsm : l[i] < 128) :
    getS l p = if (i = 9 ∧ 1 < l[i]) ∨ (0 < i ∧ l[i] = 0) then (0, 0, 700) else (unzig (val (l.take (i + 1))), p + ((i + 1 : Nat) : Int), 0) := by
  have hf10 : fin (l.take 10) = i + 1 := by
    have : l.take 10 = l.take i ++ l[i] :: ((l.drop (i + 1)).take (9 - i)) := by
      rw [show (10 : Nat) = i + (1 + (9 - i)) by omega, List.take_add, List.drop_eq_getElem_cons hlt, Nat.add_comm 1 (9 - i), List.take_succ_cons]
    rw [this, fin_app1 _ hsm _ _ hf, List.length_take, Nat.min_eq_left (by omega)]
  have hgd : l.getD i 0 = l[i] := by rw [List.getD_eq_getElem?_getD, List.getElem?_eq_getElem hlt]; rfl
  unfold getS
  rw [hf10, if_neg (by omega), Nat.add_sub_cancel, hgd]
  generalize l[i] = b at *
  by_cases c : (i = 9 ∧ 1 < b) ∨ (0 < i ∧ b = 0)
  · rw [if_pos c, if_pos]
    rcases c with ⟨a, d⟩ | ⟨a, d⟩
    · left; subst a; rw [hgd]; exact ⟨rfl, d⟩
    · right; exact ⟨by omega, d⟩
  · rw [if_neg c, if_neg]
    rintro (⟨a, d⟩ | ⟨a, d⟩)
    · have h : i = 9 := by omega
      subst h; rw [hgd] at d; exact c (Or.inl ⟨rfl, d⟩)
    · exact c (Or.inr ⟨by omega, d⟩)
theorem val_small (l : List Nat) (i : Nat) (hlt : i < l.length) (h9 : i < 10) (hsm : l[i] < 128) (h : i < 9 ∨ l[i] ≤ 1) :
    val (l.take (i + 1)) = val (l.take i) + 128 ^ i * l[i] ∧ val (l.take i) + 128 ^ i * l[i] < 18446744073709551616 := by
  have hvl := val_lt (l.take i)
  rw [List.length_take, Nat.min_eq_left (by omega)] at hvl
  constructor
  · rw [List.take_succ_eq_append_getElem hlt, val_app, List.length_take, Nat.min_eq_left (by omega)]; simp only [val, Nat.mul_zero, Nat.add_zero]; rw [Nat.mod_eq_of_lt hsm]
  · generalize l[i] = b at *
    rcases h with h | h
    · have h1 : (128 : Nat) ^ i ≤ 128 ^ 8 := Nat.pow_le_pow_right (by decide) (by omega)
      have h2 : 128 ^ i * b ≤ 128 ^ 8 * 127 := Nat.mul_le_mul h1 (by omega)
      have e8 : (128 : Nat) ^ 8 = 72057594037927936 := by decide
      omega
    · have h1 : (128 : Nat) ^ i ≤ 128 ^ 9 := Nat.pow_le_pow_right (by decide) (by omega)
      have h2 : 128 ^ i * b ≤ 128 ^ 9 * 1 := Nat.mul_le_mul h1 h
      have e9 : (128 : Nat) ^ 9 = 9223372036854775808 := by decide
      omega
theorem w_add2 (p i : Nat) (hp : p ≤ 4611686018427387904) (hi : i ≤ 10) : wrap64 ((p : Int) + (i : Int)) = ((p + i : Nat) : Int) ∧ wrap64 (7 * (i : Int)) = ((7 * i : Nat) : Int) ∧ IntKind.u64.wrap ((7 * i : Nat) : Int) = ((7 * i : Nat) : Int) ∧ wrap64 ((i : Int) + 1) = ((i + 1 : Nat) : Int) := by
  refine ⟨?_, ?_, wrap_u64_id (by omega) (by omega), ?_⟩
  · rw [wrap64_id (by omega) (by omega)]; omega
  · rw [wrap64_id (by omega) (by omega)]; omega
  · rw [wrap64_id (by omega) (by omega)]; omega
theorem rget_l0 (s : ByteArray) (p : Nat) (hp : p ≤ s.size) (hs : s.size ≤ 4611686018427387904) (l : List Nat) (hl : l = (L s).drop p) (d : Nat) :
    ∀ (i : Nat) (u : Int) (k : Nat), 10 - i = d → i ≤ 10 → i ≤ l.length → d + 1 < k → fin (l.take i) = 0 → (i < 10 → u = ((val (l.take i) : Nat) : Int)) → bourneref1_GetNum.l0 k s (p : Int) u (i : Int) = some (getS l (p : Int)) := by
  have hlen := L_len s
  have hll : l.length = s.size - p := by rw [hl, List.length_drop, hlen]
  have hbb : ∀ x ∈ l, x < 256 := fun x hx => L_lt s x (List.mem_of_mem_drop (hl ▸ hx))
  induction d with
  | zero =>
    intro i u k hd hi hil hk hf hu
    obtain ⟨k, rfl⟩ : ∃ m, k = m + 1 := ⟨k - 1, by omega⟩
    obtain rfl : i = 10 := by omega
    simp only [bourneref1_GetNum.l0]
    rw [if_neg (by decide)]
    unfold getS
    rw [if_pos hf, if_neg (by omega)]
  | succ d ih =>
    intro i u k hd hi hil hk hf hu
    obtain ⟨k, rfl⟩ : ∃ m, k = m + 2 := ⟨k - 2, by omega⟩
    have hi10 : i < 10 := by omega
    have hi9 : i ≤ 9 := by omega
    have hu := hu hi10
    subst hu
    have q1 : ((i : Nat) : Int) < 10 := by omega
    have q2 : 0 ≤ ((p + i : Nat) : Int) := by omega
    have q3 : 0 ≤ ((7 * i : Nat) : Int) := by omega
    have q4 : 10 - (i + 1) = d := by omega
    have q5 : d + 1 < k + 1 := by omega
    have q6 : p ≤ 4611686018427387904 := by omega
    simp only [bourneref1_GetNum.l0]
    rw [if_pos q1, (w_add2 p i q6 hi).1]
    by_cases hend : l.length ≤ i
    · have q7 : ((p + i : Nat) : Int) ≥ (s.size : Int) := by omega
      rw [if_pos q7]
      unfold getS
      have ht : l.take 10 = l.take i := by rw [List.take_of_length_le (by omega), List.take_of_length_le (by omega)]
      rw [ht, if_pos hf, if_pos (by omega)]
    · have hlt : i < l.length := by omega
      have q7 : ¬ ((p + i : Nat) : Int) ≥ (s.size : Int) := by omega
      have q8 : ((p + i : Nat) : Int) < (s.size : Int) := by omega
      have q9 : p + i < (L s).length := by omega
      have q10 : i + 1 ≤ l.length := by omega
      have hb : bt s ((p + i : Nat) : Int) = ((l[i] : Nat) : Int) := by
        rw [bt_L, Int.toNat_natCast]
        subst hl
        rw [List.getElem_drop, List.getD_eq_getElem?_getD, List.getElem?_eq_getElem q9]; rfl
      have hb2 : l[i] < 256 := hbb _ (List.getElem_mem hlt)
      have hm1 : ((l[i] % 128 : Nat) : Int) < 18446744073709551616 := by omega
      rw [if_neg q7, if_pos q2, if_pos q8, (w_add2 p i q6 hi).2.1, (w_add2 p i q6 hi).2.2.1, (w_add2 p i q6 hi).2.2.2, if_pos q3, hb, u8and _ hb2, wrap_u64_id (n := ((l[i] % 128 : Nat) : Int)) (by omega) hm1]
      clear hb q1 q2 q3 q7 q8 q9
      by_cases hsm : l[i] < 128
      · have hmod : l[i] % 128 = l[i] := Nat.mod_eq_of_lt hsm
        have hgs := getS_small l (p : Int) i hlt hi10 hf hsm
        have c1 : ((l[i] : Nat) : Int) < 128 := by omega
        rw [if_pos c1, hmod, hgs]
        have hok : (i < 9 ∨ l[i] ≤ 1) → bourneref1_GetNum.j2 (k + 1) (p : Int) (Go.bits .or .u64 ((val (l.take i) : Nat) : Int) (shl .u64 ((l[i] : Nat) : Int) ((7 * i : Nat) : Int))) (i : Int) false = some (unzig (val (l.take (i + 1))), (p : Int) + ((i + 1 : Nat) : Int), 0) := by
          intro h9
          obtain ⟨v1, v2⟩ := val_small l i hlt hi10 hsm h9
          simp only [bourneref1_GetNum.j2]
          rw [if_neg (by decide), ror_sh l i _ hil hi9 hsm h9, v1]
          exact rfin _ p i v2 q6 hi
        have hbad : ∀ u : Int, bourneref1_GetNum.j2 (k + 1) (p : Int) u (i : Int) true = some (0, 0, 700) := by
          intro u; simp only [bourneref1_GetNum.j2, if_true]
        generalize l[i] = b at *
        by_cases z : b = 0
        · have z' : ((b : Nat) : Int) = 0 := by omega
          rw [if_pos z']
          by_cases zi : 0 < i
          · have zi' : ((i : Nat) : Int) > 0 := by omega
            rw [if_pos zi', hbad, if_pos (Or.inr ⟨zi, z⟩)]
          · have zi' : ¬ ((i : Nat) : Int) > 0 := by omega
            have z9 : ¬ ((i : Nat) : Int) = 9 := by omega
            rw [if_neg zi', if_neg z9, hok (by omega), if_neg (by omega)]
        · have z' : ¬ ((b : Nat) : Int) = 0 := by omega
          rw [if_neg z']
          by_cases h9 : i = 9
          · have h9' : ((i : Nat) : Int) = 9 := by omega
            rw [if_pos h9']
            by_cases o : 1 < b
            · have o' : ((b : Nat) : Int) > 1 := by omega
              rw [decide_eq_true o', hbad, if_pos (Or.inl ⟨h9, o⟩)]
            · have o' : ¬ ((b : Nat) : Int) > 1 := by omega
              rw [decide_eq_false o', hok (by omega), if_neg (by omega)]
          · have h9' : ¬ ((i : Nat) : Int) = 9 := by omega
            rw [if_neg h9', hok (by omega), if_neg (by omega)]
      · have c1 : ¬ ((l[i] : Nat) : Int) < 128 := by omega
        rw [if_neg c1]
        refine ih (i + 1) _ (k + 1) q4 hi10 q10 q5 (by rw [List.take_succ_eq_append_getElem hlt]; exact fin_app0 _ hsm _ hf) ?_
        intro h10
        have c2 : l[i] % 128 < 128 := Nat.mod_lt _ (by decide)
        have c3 : i < 9 ∨ l[i] % 128 ≤ 1 := Or.inl (by omega)
        rw [ror_sh l i _ hil hi9 c2 c3, List.take_succ_eq_append_getElem hlt, val_app, List.length_take, Nat.min_eq_left hil]
        simp [val]
theorem rget_ev (s : ByteArray) (p : Nat) (hp : p ≤ s.size) (hs : s.size ≤ 4611686018427387904) : ∀ k, 20 ≤ k → bourneref1_GetNum.f k s (p : Int) = some (getS ((L s).drop p) (p : Int)) := by
  intro k hk
  obtain ⟨k, rfl⟩ : ∃ m, k = m + 1 := ⟨k - 1, by omega⟩
  unfold bourneref1_GetNum.f
  rw [if_neg (by omega), decide_eq_false (by omega)]
  simp only [bourneref1_GetNum.j0]
  rw [if_neg (by decide)]
  exact rget_l0 s p hp hs _ rfl 10 0 0 k (by omega) (by omega) (by omega) (by omega) (by simp [fin]) (by intro _; simp [val])
theorem rget_form (s : ByteArray) (p : Int) (h : p < 0 ∨ (s.size : Int) < p) : ∀ k, 1 ≤ k → bourneref1_GetNum.f k s p = some (0, 0, 700) := by
  intro k hk
  obtain ⟨k, rfl⟩ : ∃ m, k = m + 1 := ⟨k - 1, by omega⟩
  unfold bourneref1_GetNum.f
  by_cases c : p < 0
  · rw [if_pos c]; simp [bourneref1_GetNum.j0]
  · rw [if_neg c, decide_eq_true (by omega)]; simp [bourneref1_GetNum.j0]

/-! ### rwire9g -/
theorem rnum_ev (s : ByteArray) (hs : s.size ≤ 4611686018427387904) (p : Int) (b : Bool) (h0 : 0 ≤ p) (h1 : p ≤ s.size) (k : Nat) (hk : 20 ≤ k) :
    bourneref1_Reader_Num.f k s p b = some ((numM (L s) p b).1, s, (numM (L s) p b).2.1, (numM (L s) p b).2.2) := by
  unfold bourneref1_Reader_Num.f numM
  have h := rget_ev s p.toNat (by omega) hs k hk
  rw [Int.toNat_of_nonneg h0] at h
  rw [h, Option.bind_some]
  cases b with
  | true => rfl
  | false =>
    simp only [Bool.false_eq_true, reduceIte]
    by_cases c : (getS ((L s).drop p.toNat) p).2.2 = 0
    · simp only [if_pos c]
    · simp only [if_neg c]
theorem rraw_ev (s : ByteArray) (hs : s.size ≤ 4611686018427387904) (k : Nat) (hk : 20 ≤ k) : bourneref1_GetOp.raw k s = some ((rawM (L s)).1, (rawM (L s)).2.1, (rawM (L s)).2.2.1, (rawM (L s)).2.2.2.1, (rawM (L s)).2.2.2.2.1, s, (rawM (L s)).2.2.2.2.2.1, (rawM (L s)).2.2.2.2.2.2) := by
  have hb := L_lt s
  have hlen := L_len s
  have N : ∀ (p : Int) (b : Bool), 0 ≤ p → p ≤ s.size → bourneref1_Reader_Num.f k s p b = some ((numM (L s) p b).1, s, (numM (L s) p b).2.1, (numM (L s) p b).2.2) := fun p b a1 a2 => rnum_ev s hs p b a1 a2 k hk
  have R : ∀ (p : Int) (b : Bool), 0 ≤ p → p ≤ s.size → 0 ≤ (numM (L s) p b).2.1 ∧ (numM (L s) p b).2.1 ≤ s.size := fun p b a1 a2 => by
    have := num_rng (L s) hb p b a1 (by omega); omega
  unfold bourneref1_GetOp.raw rawM
  have r0 := R 0 false (by omega) (by omega)
  rw [N 0 false (by omega) (by omega), Option.bind_some]
  dsimp only
  generalize numM (L s) 0 false = t0 at *
  by_cases c : t0.1 = 0
  · have r1 := R t0.2.1 t0.2.2 r0.1 r0.2
    have r2 := R _ (numM (L s) t0.2.1 t0.2.2).2.2 r1.1 r1.2
    have r3 := R _ (numM (L s) (numM (L s) t0.2.1 t0.2.2).2.1 (numM (L s) t0.2.1 t0.2.2).2.2).2.2 r2.1 r2.2
    rw [if_pos c, if_pos c, N _ _ r0.1 r0.2, Option.bind_some]
    dsimp only
    rw [N _ _ r1.1 r1.2, Option.bind_some]
    dsimp only
    rw [N _ _ r2.1 r2.2, Option.bind_some]
    dsimp only
    rw [N _ _ r3.1 r3.2, Option.bind_some]
  · rw [if_neg c, if_neg c]
    by_cases c1 : t0.1 = 1
    · have r1 := R t0.2.1 t0.2.2 r0.1 r0.2
      rw [if_pos c1, if_pos c1, N _ _ r0.1 r0.2, Option.bind_some]
      dsimp only
      rw [N _ _ r1.1 r1.2, Option.bind_some]
    · rw [if_neg c1, if_neg c1]
theorem rget_all (s : ByteArray) (hs : s.size ≤ 4611686018427387904) (k : Nat) (hk : 20 ≤ k) : bourneref1_GetOp.f (k + 1) s = some (getM (L s)) := by
  have hlen := L_len s
  unfold bourneref1_GetOp.f getM
  rw [rraw_ev s hs (k + 1) (by omega), Option.bind_some]
  dsimp only
  generalize rawM (L s) = q
  obtain ⟨n0, n1, n2, n3, n4, p, b⟩ := q
  dsimp only
  cases b with
  | true => simp only [reduceIte, Bool.true_eq_false, false_and]
  | false =>
    rw [if_neg (by decide)]
    by_cases c : p = (s.size : Int)
    · rw [if_pos (by simp [c]), ropMay_eq, Option.bind_some]
      by_cases m : oMay n0 n1 n2 n3 n4 = true
      · rw [if_pos m, if_pos ⟨rfl, by omega, m⟩]
      · rw [if_neg m, if_neg (fun h => m h.2.2)]
    · rw [if_neg (by simp [c]), if_neg (fun h => c (by omega))]

/-! ### rscan11 -/
theorem rbad_ev (s : ByteArray) (b : Int) : bourneref1_Scanner_bad.f s b = some (tell [] b, s, 0) := by
  unfold bourneref1_Scanner_bad.f tell
  by_cases c : b = 0
  · rw [if_pos c, if_pos c, c]
  · rw [if_neg c, if_neg c]; rfl
theorem rtell (o : List S49) (b : Int) : o ++ tell [] b = tell o b := by unfold tell; split <;> simp
theorem rop_w (s : ByteArray) (hs : s.size ≤ 4611686018427387904) : Ev (fun k => bourneref1_GetOp.f k s) (getM (L s)) := ⟨21, fun k hk => by
  obtain ⟨m, rfl⟩ : ∃ m, k = m + 1 := ⟨k - 1, by omega⟩
  exact rget_all s hs m (by omega)⟩
/-- What the reference's look at a place answers. -/
theorem here_ev (s : ByteArray) (p : Nat) (hp : p ≤ s.size) (hs : s.size ≤ 4611686018427387904) {l : List Nat} (e : (L s).drop p = l) :
    ∃ a0 a1 a2 a3 a4 tt, Ev (fun k => bourneref1_here.f k s (p : Int)) (a0, a1, a2, a3, a4, tt, (hit l).isSome, isCut l) ∧ ∀ x n, hit l = some (x, n) → x = ⟨a0, a1, a2, a3, a4⟩ ∧ tt = ((p + n : Nat) : Int) := by
  have hg := rgetf_ev s p hp hs
  rw [e, getF_p] at hg
  have hlt : ∀ y ∈ l, y < 256 := fun y hy => L_lt s y (List.mem_of_mem_drop (by rw [e]; exact hy))
  have hW := rop_w (S (getF l 0).1) (by
    rw [S_size (getF1_lt hlt)]
    have := getF1_len l
    have := congrArg List.length e; rw [List.length_drop, L_len] at this; omega)
  rw [L_S (getF1_lt hlt)] at hW
  unfold bourneref1_here.f
  by_cases c : (getF l 0).2.2 = 0
  · have hcut : isCut l = false := by unfold isCut; rw [c]; rfl
    refine ⟨(getM (getF l 0).1).1, (getM (getF l 0).1).2.1, (getM (getF l 0).1).2.2.1, (getM (getF l 0).1).2.2.2.1, (getM (getF l 0).1).2.2.2.2.1, (p : Int) + ((l.getD 1 0 + 4 : Nat) : Int), ?_, ?_⟩
    · refine Ev.bind hg ?_
      dsimp only
      rw [c]
      refine Ev.congr (fun k => if_pos rfl) (Ev.bind hW ?_)
      rw [hcut]
      have e2 : ((getM (getF l 0).1).2.2.2.2.2 == 0) = (hit l).isSome := by
        unfold hit
        by_cases z : (getM (getF l 0).1).2.2.2.2.2 = 0
        · rw [if_pos ⟨c, z⟩, z]; rfl
        · rw [if_neg (fun q => z q.2)]; exact beq_eq_false_iff_ne.2 z
      rw [← e2]
      exact Ev.now _
    · intro x n h
      unfold hit at h
      split at h
      · obtain ⟨rfl, rfl⟩ := Prod.mk.inj (Option.some.inj h)
        exact ⟨rfl, (Int.natCast_add _ _).symm⟩
      · cases h
  · have hh : hit l = none := by unfold hit; rw [if_neg (fun q => c q.1)]
    refine ⟨0, 0, 0, 0, 0, 0, ?_, ?_⟩
    · refine Ev.bind hg ?_
      dsimp only
      refine Ev.congr (f := fun _ => some (0, 0, 0, 0, 0, 0, false, ((getF l 0).2.2 == 801))) (fun k => if_neg c) ?_
      have e2 : ((getF l 0).2.2 == 801) = isCut l := by
        unfold isCut
        by_cases z : (getF l 0).2.2 = 801
        · rw [z]; rfl
        · rw [decide_eq_false z]; exact beq_eq_false_iff_ne.2 z
      rw [e2, hh]
      exact Ev.now _
    · intro x n h; rw [hh] at h; cases h
theorem rwalk_ev (last : Bool) (s : ByteArray) (hs : s.size ≤ 4611686018427387904) {l : List Nat} {o : List S49} {b : Int} {o' : List S49} {l' : List Nat} {b' : Int} (h : Run last l o b o' l' b') :
    ∀ p : Nat, p ≤ s.size → (L s).drop p = l → 0 ≤ b → b ≤ 1073741823 → o.length + l.length + 1 < 3518437208883 →
    Ev (fun k => bourneref1_Scanner_walk.l0 k last o (p : Int) s b) (o', S l', b') := by
  have hlen := L_len s
  have fin : ∀ (p : Nat) (o : List S49) (b : Int), p ≤ s.size → (if 0 ≤ (p : Int) then (if (p : Int) ≤ (s.size : Int) then (some (o, s.extract (p : Int).toNat s.size, b)) else (none)) else (none)) = some (o, S ((L s).drop p), b) := fun p o b hp => by
    rw [if_pos (by omega), if_pos (by omega), Int.toNat_natCast, x_drop]
  induction h with
  | nil o b =>
    intro p hp e h0 h1 ho
    have e2 : p = s.size := by
      have := congrArg List.length e; rw [List.length_drop, List.length_nil] at this; omega
    refine Ev.step (f := fun _ => some (o, S [], b)) (fun k => ?_) (Ev.now _)
    simp only [bourneref1_Scanner_walk.l0]
    rw [if_neg (by omega), fin p o b hp, e]
  | cut l o b hne hc hl =>
    intro p hp e h0 h1 ho
    have e2 : p < s.size := by
      have := congrArg List.length e; rw [List.length_drop] at this
      have := List.length_pos_iff.2 hne; omega
    obtain ⟨a0, a1, a2, a3, a4, tt, hev, _⟩ := here_ev s p hp hs e
    refine Ev.step (fun k => by simp only [bourneref1_Scanner_walk.l0]; rw [if_pos (by omega)]) ?_
    refine Ev.bind hev ?_
    dsimp only
    rw [hc]
    refine Ev.congr (fun k => if_pos rfl) ?_
    refine Ev.step (f := fun _ => some (o, S l, b)) (fun k => ?_) (Ev.now _)
    simp only [bourneref1_Scanner_walk.j1]
    rw [if_pos (by rw [hl]; rfl), fin p o b hp, e]
  | bad c t o b o' l' b' hcut hh hr ih =>
    intro p hp e h0 h1 ho
    have e2 : p < s.size := by
      have := congrArg List.length e; rw [List.length_drop, List.length_cons] at this; omega
    have hb := bump_le b h0 h1
    have hd : (L s).drop (p + 1) = t := by rw [← List.drop_drop, e, List.drop_succ_cons, List.drop_zero]
    have ih' := ih (p + 1) (by omega) hd hb.1 hb.2 (by rw [List.length_cons] at ho; omega)
    have hw : wrap64 ((p : Int) + 1) = ((p + 1 : Nat) : Int) := by rw [wrap64_id (by omega) (by omega)]; omega
    have hw2 : mn (wrap64 (b + 1)) 1073741823 = bump b := by rw [wrap64_id (by omega) (by omega)]; rfl
    obtain ⟨a0, a1, a2, a3, a4, tt, hev, _⟩ := here_ev s p hp hs e
    rw [hh] at hev
    have key : Ev (fun k => bourneref1_Scanner_walk.j1 k last o (p : Int) tt false false s b a0 a1 a2 a3 a4) (o', S l', b') := by
      refine Ev.step (fun k => ?_) ih'
      simp only [bourneref1_Scanner_walk.j1]
      rw [if_neg (by decide), if_neg (by decide), hw, hw2]
    refine Ev.step (fun k => by simp only [bourneref1_Scanner_walk.l0]; rw [if_pos (by omega)]) ?_
    refine Ev.bind hev ?_
    dsimp only
    refine Ev.congr (fun k => ?_) key
    cases hz : isCut (c :: t) with
    | true => rw [if_pos rfl, hcut hz]; rfl
    | false => rw [if_neg (by decide)]; rfl
  | op l o b x n o' l' b' hh hr ih =>
    intro p hp e h0 h1 ho
    have hn := hit_len hh
    have hle : l.length = s.size - p := by rw [← e, List.length_drop, hlen]
    have hd : (L s).drop (p + n) = l.drop n := by rw [← List.drop_drop, e]
    have htl := tell_len o b
    have ht0 := tell_len [] b
    have ih' := ih (p + n) (by omega) hd (by omega) (by omega) (by rw [List.length_append, List.length_drop]; simp; omega)
    obtain ⟨a0, a1, a2, a3, a4, tt, hev, hx⟩ := here_ev s p hp hs e
    obtain ⟨rfl, rfl⟩ := hx x n hh
    have hcut : isCut l = false := by
      cases z : isCut l with
      | false => rfl
      | true => rw [hit_cut z] at hh; cases hh
    rw [hh, hcut] at hev
    refine Ev.step (fun k => by simp only [bourneref1_Scanner_walk.l0]; rw [if_pos (by omega)]) ?_
    refine Ev.bind hev ?_
    dsimp only
    refine Ev.congr (fun k => if_neg (by decide)) ?_
    refine Ev.step (fun k => ?_) ih'
    simp only [bourneref1_Scanner_walk.j1]
    rw [List.length_nil] at ht0
    rw [if_neg (by decide), if_pos (by rfl), rbad_ev, Option.bind_some]
    dsimp only
    rw [if_pos (by omega), Option.bind_some, rtell, if_pos (by omega)]
theorem rscan_write (w s : ByteArray) (hs : w.size + s.size < 3518437208880) {b : Int} (h0 : 0 ≤ b) (h1 : b ≤ 1073741823) {o' : List S49} {l' : List Nat} {b' : Int} (h : Run false (L w ++ L s) [] b o' l' b') :
    Ev (fun k => bourneref1_Scanner_Write.f k w b s) (o', S l', b') := by
  have e : (w ++ s).size = w.size + s.size := by rw [ByteArray.size_append]
  have hl : (L (w ++ s)).length = w.size + s.size := by rw [L_len, e]
  have h2 : Run false (L (w ++ s)) [] b o' l' b' := by rw [L_append]; exact h
  have := rwalk_ev false (w ++ s) (by omega) h2 0 (Nat.zero_le _) rfl h0 h1 (by simp only [List.length_nil]; omega)
  refine Ev.congr (f := fun k => (bourneref1_Scanner_walk.f k (w ++ s) b false).bind fun t => some (t.1, t.2.1, t.2.2)) (fun k => ?_) (Ev.bind this (Ev.now _))
  unfold bourneref1_Scanner_Write.f
  rw [if_pos (by omega)]
theorem rscan_close (w : ByteArray) (hs : w.size < 3518437208880) {b : Int} (h0 : 0 ≤ b) (h1 : b ≤ 1073741823) {o' : List S49} {b' : Int} (h : Run true (L w) [] b o' [] b') :
    Ev (fun k => bourneref1_Scanner_Close.f k w b) (tell o' b', S [], 0) := by
  have hl := L_len w
  have f := run_facts h (L_lt w) h0 h1
  have ht0 := tell_len [] b'
  rw [List.length_nil] at ht0
  have f3 := f.2.2.1
  simp only [List.length_nil] at f3
  have := rwalk_ev true w (by omega) h 0 (Nat.zero_le _) rfl h0 h1 (by simp only [List.length_nil]; omega)
  refine Ev.bind this ?_
  refine Ev.congr (f := fun _ => some (tell o' b', S [], 0)) (fun k => ?_) (Ev.now _)
  dsimp only
  rw [rbad_ev, Option.bind_some]
  dsimp only
  rw [if_pos (by omega), rtell]
theorem spoil_l0 (d : Nat) : ∀ (i : Nat) (l : List S49), l.length - i = d → i ≤ l.length → l.length ≤ 4611686018427387904 → ∃ z, Ev (fun k => bournelaw0_SpoilOps.l0 k l (i : Int)) z := by
  induction d with
  | zero =>
    intro i l hd hi hl
    refine ⟨l, Ev.step (f := fun _ => some l) (fun k => ?_) (Ev.now _)⟩
    simp only [bournelaw0_SpoilOps.l0]
    rw [if_neg (by omega)]
  | succ d ih =>
    intro i l hd hi hl
    have hw : wrap64 ((i : Int) + 1) = ((i + 1 : Nat) : Int) := by rw [wrap64_id (by omega) (by omega)]; omega
    obtain ⟨z, hz⟩ := ih (i + 1) (l.set i (⟨(rd_T49 l (i : Int)).f0, (rd_T49 l (i : Int)).f1, (rd_T49 l (i : Int)).f2, Go.bits .xor .i64 ((rd_T49 l (i : Int)).f3) 90, (rd_T49 l (i : Int)).f4⟩ : S49)) (by rw [List.length_set]; omega) (by rw [List.length_set]; omega) (by rw [List.length_set]; exact hl)
    refine ⟨z, Ev.step (fun k => ?_) hz⟩
    simp only [bournelaw0_SpoilOps.l0]
    rw [if_pos (by omega), if_pos (by omega), hw, Int.toNat_natCast]
theorem spoil_ev (l : List S49) (hl : l.length ≤ 4611686018427387904) : ∃ z, Ev (fun k => bournelaw0_SpoilOps.f k l) z := spoil_l0 _ 0 l rfl (Nat.zero_le _) hl



end Go.Proofs.Ytmccgkbbgicglaa.ScanRefP
