/- The law ScanFinds answers true at any operations and any junk. No condition. -/
import Derived.Test.YtmccgkbbgicglaaQScanAllx11
import Derived.Test.YtmccgkbbgicglaaScanAwakePure
namespace Go.Proofs.Ytmccgkbbgicglaa.ScanFindsMath
open Go.RowKit Go.Proofs.Ytmccgkbbgicglaa.QScanAll Go.Proofs.Ytmccgkbbgicglaa.ScanPure Go.Proofs.Ytmccgkbbgicglaa.ScanAwakePure Go.Proofs.YtmccgkbbgicglaaW.PrintWords Go.Proofs.YtmccgkbbgicglaaW.PrintLast Go.Proofs.YtmccgkbbgicglaaW.PrintMore
set_option linter.unusedVariables false
set_option linter.unusedSimpArgs false

/-! ### scancut0 -/
def cntO (x : S49) : Int := if x.f0 = 3 then x.f4 else ((fr x).length : Int)
def cnt : List S49 → Int
  | [] => 0
  | x :: xs => cntO x + cnt xs
theorem cnt_app (a b : List S49) : cnt (a ++ b) = cnt a + cnt b := by
  induction a with
  | nil => simp [cnt]
  | cons x xs ih => rw [List.cons_append, cnt, ih, cnt, Int.add_assoc]
theorem cnt_tell (o : List S49) (b : Int) : cnt (tell o b) = cnt o + b := by
  unfold tell
  split
  · omega
  · rw [cnt_app]; simp [cnt, cntO]
theorem may5_kind {x : S49} (h : may5 x = true) : x.f0 ≠ 3 := by
  have := oMay_rng (show oMay x.f0 x.f1 x.f2 x.f3 x.f4 = true from h); omega
def okO (x : S49) : Prop := 0 ≤ cntO x
theorem okO_fr {x : S49} (h : may5 x = true) : okO x := by unfold okO cntO; rw [if_neg (may5_kind h)]; omega
theorem ok_tell {o : List S49} {b : Int} (h : ∀ x ∈ o, okO x) (hb : 0 ≤ b) : ∀ x ∈ tell o b, okO x := by
  intro x hx
  unfold tell at hx
  split at hx
  · exact h x hx
  · rcases List.mem_append.1 hx with hx | hx
    · exact h x hx
    · rw [List.mem_singleton.1 hx]; show 0 ≤ cntO _; unfold cntO; rw [if_pos rfl]; exact hb
theorem cnt_nn {o : List S49} (h : ∀ x ∈ o, okO x) : 0 ≤ cnt o := by
  induction o with
  | nil => exact Int.le_refl _
  | cons x xs ih =>
    have h1 : 0 ≤ cntO x := h x (List.mem_cons_self ..)
    have h2 := ih (fun y hy => h y (List.mem_cons_of_mem _ hy))
    rw [cnt]; omega
theorem run_count {last : Bool} {l : List Nat} {o : List S49} {b : Int} {o' : List S49} {l' : List Nat} {b' : Int} (h : Run last l o b o' l' b') :
    (∀ y ∈ l, y < 256) → 0 ≤ b → b + l.length ≤ 1073741823 → (∀ x ∈ o, okO x) → cnt o' + b' + l'.length = cnt o + b + l.length ∧ 0 ≤ b' ∧ b' ≤ 1073741823 ∧ (∀ x ∈ o', okO x) ∧ o'.length + l'.length ≤ o.length + l.length := by
  induction h with
  | nil o b => intro _ h0 h1 ho; exact ⟨by simp, h0, by simpa using h1, ho, by simp⟩
  | cut l o b _ _ _ => intro _ h0 h1 ho; exact ⟨rfl, h0, by omega, ho, Nat.le_refl _⟩
  | bad c t o b o' l' b' _ _ _ ih =>
    intro hb h0 h1 ho
    rw [List.length_cons] at h1
    have e := bump_eq (b := b) (by omega)
    obtain ⟨i1, i2, i3, i4, i5⟩ := ih (fun y hy => hb y (List.mem_cons_of_mem _ hy)) (by omega) (by omega) ho
    rw [List.length_cons]
    exact ⟨by omega, i2, i3, i4, by omega⟩
  | op l o b x n o' l' b' hh _ ih =>
    intro hb h0 h1 ho
    obtain ⟨hm, hf, hn⟩ := hit_inv hb hh
    have hl := hit_len hh
    have hd : (l.drop n).length = l.length - n := List.length_drop ..
    obtain ⟨i1, i2, i3, i4, i5⟩ := ih (fun y hy => hb y (List.mem_of_mem_drop hy)) (Int.le_refl _) (by omega) (fun y hy => by
      rcases List.mem_append.1 hy with hy | hy
      · exact ok_tell ho h0 y hy
      · rw [List.mem_singleton.1 hy]; exact okO_fr hm)
    rw [cnt_app, cnt_tell] at i1
    have e : cnt [x] = (n : Int) := by simp only [cnt, cntO]; rw [if_neg (may5_kind hm), hn]; omega
    have ht := tell_len o b
    rw [List.length_append, List.length_singleton] at i5
    exact ⟨by omega, i2, i3, i4, by omega⟩
theorem run_true (n : Nat) : ∀ (l : List Nat) (o : List S49) (b : Int), l.length = n → ∃ o' b', Run true l o b o' [] b' := by
  induction n using Nat.strongRecOn with
  | _ n ih =>
    intro l o b hl
    cases l with
    | nil => exact ⟨o, b, Run.nil o b⟩
    | cons c t =>
      cases e : hit (c :: t) with
      | none =>
        rw [List.length_cons] at hl
        obtain ⟨o', b', h⟩ := ih t.length (by omega) t o (bump b) rfl
        exact ⟨o', b', Run.bad c t o b o' [] b' (fun _ => rfl) e h⟩
      | some q =>
        obtain ⟨x, m⟩ := q
        have hm := hit_len e
        obtain ⟨o', b', h⟩ := ih ((c :: t).drop m).length (by rw [List.length_drop]; omega) _ (tell o b ++ [x]) 0 rfl
        exact ⟨o', b', Run.op (c :: t) o b x m o' [] b' e h⟩
def led (o : List S49) : Prop := ∃ x r, o = x :: r ∧ x.f0 = 3
theorem led_app {o : List S49} (h : led o) (r : List S49) : led (o ++ r) := by
  obtain ⟨x, t, rfl, hx⟩ := h
  exact ⟨x, t ++ r, by simp, hx⟩
theorem led_tell {o : List S49} {b : Int} (h : led o ∨ o = [] ∧ 1 ≤ b) : led (tell o b) := by
  unfold tell
  rcases h with h | ⟨rfl, hb⟩
  · split
    · exact h
    · exact led_app h _
  · rw [if_neg (by omega)]; exact ⟨_, [], rfl, rfl⟩
theorem run_led {last : Bool} {l : List Nat} {o : List S49} {b : Int} {o' : List S49} {l' : List Nat} {b' : Int} (h : Run last l o b o' l' b') :
    0 ≤ b → b + l.length ≤ 1073741823 → (led o ∨ o = [] ∧ 1 ≤ b) → led o' ∨ o' = [] ∧ 1 ≤ b' := by
  induction h with
  | nil o b => intro _ _ h; exact h
  | cut l o b _ _ _ => intro _ _ h; exact h
  | bad c t o b o' l' b' _ _ _ ih =>
    intro h0 h1 h
    rw [List.length_cons] at h1
    have e := bump_eq (b := b) (by omega)
    exact ih (by omega) (by omega) (h.imp id (fun z => ⟨z.1, by omega⟩))
  | op l o b x n o' l' b' hh _ ih =>
    intro h0 h1 h
    have hd : (l.drop n).length ≤ l.length := by rw [List.length_drop]; omega
    exact ih (Int.le_refl _) (by omega) (.inl (led_app (led_tell h) _))
theorem rd_at (l : List S49) (i : Nat) (h : i < l.length) : rd_T49 l (i : Int) = l[i] := by
  unfold rd_T49
  rw [Int.toNat_natCast, List.getD_eq_getElem?_getD, List.getElem?_eq_getElem h]; rfl
theorem cnt_take (l : List S49) (i : Nat) (h : i < l.length) : cnt (l.take (i + 1)) = cnt (l.take i) + cntO l[i] := by
  rw [List.take_succ_eq_append_getElem h, cnt_app]; simp [cnt]
theorem toList_S {l : List Nat} (h : ∀ y ∈ l, y < 256) : ((S l).toList = ([] : List UInt8)) ↔ l = [] := by
  rw [toList_lit, L_S h]; rfl
theorem S_nil_l : (S []).toList = ([] : List UInt8) := (toList_S (fun _ h => by cases h)).2 rfl
theorem waits_ev (s : ByteArray) (b : Int) : scan_Scanner_Waits.f s b = some (s, s, b) := rfl
theorem bad_ev (s : ByteArray) (b : Int) : scan_Scanner_Bad.f s b = some (b, s, b) := rfl
theorem take_lt {l : List Nat} (h : ∀ y ∈ l, y < 256) (n : Nat) : ∀ y ∈ l.take n, y < 256 := fun y hy => h y (List.mem_of_mem_take hy)

/-! ### scanfinds -/
theorem copy_ev (l : List S49) (h : l.length < 1000000) : bournelaw0_CopyOps.f l = some l := by
  unfold bournelaw0_CopyOps.f
  rw [Option.bind_some, if_pos (by simp; omega), List.nil_append]
def calm (o : List S49) : Prop := o = [] ∨ ∃ p x, o = p ++ [x] ∧ x.f0 ≠ 3
theorem rd_last (p : List S49) (x : S49) : rd_T49 (p ++ [x]) ((p.length : Nat) : Int) = x := by
  rw [rd_at _ _ (by simp), List.getElem_append_right (Nat.le_refl _)]; simp
theorem bad_add (o : List S49) (b m : Int) (hc : calm o) (hl : o.length < 900000) (hb : 0 ≤ b) (hb2 : b ≤ 1000000) (hm : 1 ≤ m) (hm2 : m ≤ 1000000) : bournelaw11_bad.f (tell o b) m = some (tell o (b + m)) := by
  have ht := tell_len o b
  have e2 : tell o (b + m) = o ++ [⟨3, 0, 0, 0, b + m⟩] := if_neg (by omega)
  unfold bournelaw11_bad.f
  rw [copy_ev _ (by omega), Option.bind_some, e2]
  by_cases c : b = 0
  · have e1 : tell o b = o := if_pos c
    rw [e1, c, Int.zero_add]
    rcases hc with rfl | ⟨p, x, rfl, hx⟩
    · rfl
    · have hw : wrap64 (((p ++ [x]).length : Int) - 1) = ((p.length : Nat) : Int) := by
        rw [List.length_append, List.length_singleton] at *
        rw [wrap64_id (by omega) (by omega)]; omega
      have hpl : (p ++ [x]).length = p.length + 1 := by simp
      rw [if_pos (by omega), hw, if_pos (by omega), if_pos (by omega), rd_last, if_neg hx, if_pos (by omega)]
  · have e1 : tell o b = o ++ [⟨3, 0, 0, 0, b⟩] := if_neg c
    rw [e1]
    have hpl : (o ++ [(⟨3, 0, 0, 0, b⟩ : S49)]).length = o.length + 1 := by simp
    have hw : wrap64 (((o ++ [(⟨3, 0, 0, 0, b⟩ : S49)]).length : Int) - 1) = ((o.length : Nat) : Int) := by
      rw [wrap64_id (by omega) (by omega)]; omega
    have hw2 : wrap64 (b + m) = b + m := wrap64_id (by omega) (by omega)
    rw [if_pos (by omega), hw, if_pos (by omega), if_pos (by omega), rd_last, if_pos rfl, Int.toNat_natCast]
    dsimp only
    rw [hw2, List.set_append_right _ _ (Nat.le_refl _)]
    simp
def Inv (sl : List Nat) (want : List S49) (B s n : Nat) : Prop :=
  ∃ (o : List S49) (b : Int), want = tell o b ∧ 0 ≤ b ∧ b ≤ B ∧ calm o ∧ (∀ y ∈ sl, y < 256) ∧ sl.length ≤ s ∧ o.length + (if b = 0 then 0 else 1) ≤ n ∧ ∀ r o' l' b', Run false r o b o' l' b' → Run false (sl ++ r) [] 0 o' l' b'
theorem inv_len {sl : List Nat} {want : List S49} {B s n : Nat} (h : Inv sl want B s n) : want.length ≤ n ∧ sl.length ≤ s ∧ (∀ y ∈ sl, y < 256) := by
  obtain ⟨o, b, rfl, _, _, _, h5, h6, h7, _⟩ := h
  refine ⟨?_, h6, h5⟩
  unfold tell
  split
  · rename_i c; rw [if_pos c] at h7; omega
  · rename_i c; rw [if_neg c] at h7; simpa using h7
theorem inv_mono {sl : List Nat} {want : List S49} {B s n B2 s2 n2 : Nat} (h : Inv sl want B s n) (h1 : B ≤ B2) (h2 : s ≤ s2) (h3 : n ≤ n2) : Inv sl want B2 s2 n2 := by
  obtain ⟨o, b, e, a1, a2, a3, a4, a5, a6, a7⟩ := h
  exact ⟨o, b, e, a1, by omega, a3, a4, by omega, by omega, a7⟩
theorem inv_nil : Inv [] [] 0 0 0 := ⟨[], 0, rfl, by decide, by decide, .inl rfl, (fun _ h => by cases h), by simp, by simp, fun r o' l' b' h => h⟩
theorem inv_junk {sl : List Nat} {want : List S49} {B s n : Nat} (h : Inv sl want B s n) (j : List Nat) (hj : ∀ c ∈ j, c ≠ 181) (hj2 : ∀ c ∈ j, c < 256) (hl : 1 ≤ j.length) (hl2 : j.length ≤ 40) (hB : B ≤ 100000) (hn : n ≤ 100000) :
    ∃ want', bournelaw11_bad.f want (j.length : Int) = some want' ∧ Inv (sl ++ j) want' (B + 40) (s + 40) (n + 1) := by
  obtain ⟨o, b, rfl, a1, a2, a3, a4, a5, a6, a7⟩ := h
  have ho : o.length ≤ n := by omega
  refine ⟨_, bad_add o b (j.length : Int) a3 (by omega) a1 (by omega) (by omega) (by omega), o, b + j.length, rfl, by omega, by omega, a3, ?_, ?_, ?_, ?_⟩
  · intro y hy
    rcases List.mem_append.1 hy with hy | hy
    · exact a4 y hy
    · exact hj2 y hy
  · rw [List.length_append]; omega
  · split <;> omega
  · intro r o' l' b' hr
    rw [List.append_assoc]
    exact a7 _ _ _ _ (run_junk j b hj (by omega) hr)
theorem inv_op {sl : List Nat} {want : List S49} {B s n : Nat} (h : Inv sl want B s n) {x : S49} (hx : may5 x = true) : Inv (sl ++ fr x) (want ++ [x]) B (s + 54) (n + 1) := by
  have hw := (inv_len h).1
  obtain ⟨o, b, rfl, a1, a2, a3, a4, a5, a6, a7⟩ := h
  refine ⟨tell o b ++ [x], 0, (if_pos rfl).symm, Int.le_refl _, by omega, .inr ⟨_, _, rfl, may5_kind hx⟩, ?_, ?_, ?_, ?_⟩
  · intro y hy
    rcases List.mem_append.1 hy with hy | hy
    · exact a4 y hy
    · exact fr_lt x y hy
  · rw [List.length_append]; have := fr_le x; omega
  · rw [if_pos rfl, List.length_append, List.length_singleton]; omega
  · intro r o' l' b' hr
    rw [List.append_assoc]
    exact a7 _ _ _ _ (run_fr hx hr)
theorem S_cat (a b : List Nat) : S a ++ S b = S (a ++ b) := (S_app a b).symm
section
variable (x0 : List S49) (x1 : List ByteArray)
/-- From the rounds' end. -/
theorem finds_end {sl : List Nat} {want : List S49} {i : Int} (h : Inv sl want 800 1880 40) : Ev (fun k => bournelaw11_ScanFinds.j1 k x0 x1 (S sl) want i false (⟨#[]⟩ : ByteArray) 0) true := by
  have hl := inv_len h
  obtain ⟨o, b, rfl, a1, a2, a3, a4, a5, a6, a7⟩ := h
  have hsz := S_size a4
  have w1 := scan_write (⟨#[]⟩ : ByteArray) (S sl) (by rw [show (⟨#[]⟩ : ByteArray).size = 0 from rfl]; omega) (b := 0) (by decide) (by decide) (o' := o) (l' := []) (b' := b) (by
    rw [show L (⟨#[]⟩ : ByteArray) = [] by decide +kernel, L_S a4, List.nil_append]
    have := a7 [] o [] b (Run.nil _ _)
    rw [List.append_nil] at this
    exact this)
  have w2 := scan_close (S []) (by decide +kernel) (b := b) a1 (by omega) (o' := []) (l' := []) (b' := b) (by
    rw [L_S (l := []) (fun _ h => by cases h)]; exact Run.nil _ _)
  have e : o ++ tell [] b = tell o b := by
    unfold tell; split <;> simp
  have htl : (tell ([] : List S49) b).length ≤ 1 := tell_len [] b
  have hs := same_ev (tell o b) (by omega)
  refine Ev.step (f := fun k => (scan_Scanner_Write.f k (⟨#[]⟩ : ByteArray) 0 (S sl)).bind fun t => (scan_Scanner_Close.f k t.2.1 t.2.2).bind fun u => if t.1.length + u.1.length < 3518437208883 then (bournelaw0_SameOps.f k (t.1 ++ u.1) (tell o b)).bind fun z => some z else none) (fun k => ?_) ?_
  · simp only [bournelaw11_ScanFinds.j1]
    rw [if_neg (by decide)]
  · refine Ev.bind w1 (Ev.bind w2 ?_)
    dsimp only
    refine Ev.congr (f := fun k => (bournelaw0_SameOps.f k (tell o b) (tell o b)).bind fun z => some z) (fun k => ?_) (Ev.bind hs (Ev.now _))
    have : o.length ≤ 40 := by omega
    rw [if_pos (by omega), e]
/-- One operation, behind its junk. -/
theorem finds_op {sl : List Nat} {want : List S49} {B s n : Nat} (h : Inv sl want B s n) (hB : B ≤ 1000) (hs : s ≤ 2000) (hn : n ≤ 1000) (i : Nat) (hi : i < x0.length) (hi2 : i < 20)
    (ih : ∀ sl2 want2, Inv sl2 want2 B (s + 54) (n + 1) → Ev (fun k => bournelaw11_ScanFinds.l0 k x0 x1 (S sl2) want2 ((i + 1 : Nat) : Int) (⟨#[]⟩ : ByteArray) 0) true) :
    Ev (fun k => if 0 ≤ (i : Int) then (if (i : Int) < (x0.length : Int) then ((bournelaw11_framed.f k ((rd_T49 x0 (i : Int)).f0) ((rd_T49 x0 (i : Int)).f1) ((rd_T49 x0 (i : Int)).f2) ((rd_T49 x0 (i : Int)).f3) ((rd_T49 x0 (i : Int)).f4)).bind fun t => (if t.toList = ([] : List UInt8) then (bournelaw11_ScanFinds.l0 k x0 x1 (S sl) want (wrap64 ((i : Int) + 1)) (⟨#[]⟩ : ByteArray) 0) else (if want.length < 3518437208883 then (if (S sl).size + t.size ≤ 9223372036854775807 then (bournelaw11_ScanFinds.l0 k x0 x1 ((S sl) ++ t) (want ++ [(⟨(rd_T49 x0 (i : Int)).f0, (rd_T49 x0 (i : Int)).f1, (rd_T49 x0 (i : Int)).f2, (rd_T49 x0 (i : Int)).f3, (rd_T49 x0 (i : Int)).f4⟩ : S49)]) (wrap64 ((i : Int) + 1)) (⟨#[]⟩ : ByteArray) 0) else (none)) else (none)))) else (none)) else (none)) true := by
  have hl := inv_len h
  have hsz := S_size hl.2.2
  have hw : wrap64 ((i : Int) + 1) = ((i + 1 : Nat) : Int) := by rw [wrap64_id (by omega) (by omega)]; omega
  rw [rd_at x0 i hi, hw]
  generalize x0[i] = x
  have hf : Ev (fun k => bournelaw11_framed.f k x.f0 x.f1 x.f2 x.f3 x.f4) (S (fr x)) := framed_ev x.f0 x.f1 x.f2 x.f3 x.f4
  refine Ev.congr (fun k => by rw [if_pos (by omega), if_pos (by omega)]) (Ev.bind hf ?_)
  have hxl := fr_le x
  have hxs := S_size (fr_lt x)
  cases hm : may5 x with
  | false =>
    have e := fr_pos.2 hm
    refine Ev.congr (fun k => if_pos ((toList_S (fr_lt x)).2 e)) (ih sl want (inv_mono h (Nat.le_refl _) (by omega) (by omega)))
  | true =>
    have e : fr x ≠ [] := fun z => by rw [fr_pos.1 z] at hm; cases hm
    refine Ev.congr (f := fun k => bournelaw11_ScanFinds.l0 k x0 x1 (S (sl ++ fr x)) (want ++ [x]) ((i + 1 : Nat) : Int) (⟨#[]⟩ : ByteArray) 0) (fun k => ?_) (ih _ _ (inv_op h hm))
    rw [if_neg (fun z => e ((toList_S (fr_lt x)).1 z)), if_pos (by omega), if_pos (by omega), S_cat]
def jk (s : ByteArray) (q : Nat) : List Nat := ((L s).take q).filter (· ≠ 181)
theorem jk_lt (s : ByteArray) (q : Nat) : (∀ y ∈ jk s q, y < 256) ∧ (∀ y ∈ jk s q, y ≠ 181) ∧ (jk s q).length ≤ q := by
  refine ⟨fun y hy => ?_, fun y hy => ?_, ?_⟩
  · exact L_lt s y (List.mem_of_mem_take (List.mem_filter.1 hy).1)
  · have := (List.mem_filter.1 hy).2; simpa using this
  · exact Nat.le_trans (List.length_filter_le _ _) (by rw [List.length_take]; omega)
theorem jk_succ (s : ByteArray) (q : Nat) (h : q < s.size) : jk s (q + 1) = jk s q ++ (if (L s).getD q 0 = 181 then [] else ((L s).take (q + 1)).drop q) := by
  have hl : q < (L s).length := by rw [L_len]; exact h
  unfold jk
  have e : (L s).take (q + 1) = (L s).take q ++ [(L s)[q]] := List.take_succ_eq_append_getElem hl
  have e2 : (L s).getD q 0 = (L s)[q] := by rw [List.getD_eq_getElem?_getD, List.getElem?_eq_getElem hl]; rfl
  have e3 : ((L s).take (q + 1)).drop q = [(L s)[q]] := by rw [e, List.drop_left' (by rw [List.length_take]; omega)]
  rw [e3, e2, e, List.filter_append]
  congr 1
  by_cases c : (L s)[q] = 181
  · rw [if_pos c]; simp [c]
  · rw [if_neg c]; simp [c]
/-- The junk, byte by byte. -/
theorem finds_l1 {sl : List Nat} {want : List S49} {B s n : Nat} (h : Inv sl want B s n) (hB : B ≤ 900) (hs : s ≤ 1900) (hn : n ≤ 900) (i : Nat) (hi : i < x0.length) (hi2 : i < 20) (hi3 : i < x1.length) (hx1 : ∀ g ∈ x1, g.size ≤ 4611686018427387904)
    (ih : ∀ sl2 want2, Inv sl2 want2 (B + 40) (s + 94) (n + 2) → Ev (fun k => bournelaw11_ScanFinds.l0 k x0 x1 (S sl2) want2 ((i + 1 : Nat) : Int) (⟨#[]⟩ : ByteArray) 0) true) (d : Nat) :
    ∀ q : Nat, 40 - q = d → q ≤ 40 → q ≤ x1[i].size → Ev (fun k => bournelaw11_ScanFinds.l1 k x0 x1 (S sl) want (i : Int) (S (jk x1[i] q)) (q : Int) (⟨#[]⟩ : ByteArray) 0) true := by
  have hl := inv_len h
  have hsz := S_size hl.2.2
  have er : rdOf ByteArray.empty x1 (i : Int) = x1[i] := by
    unfold rdOf
    rw [Int.toNat_natCast, List.getD_eq_getElem?_getD, List.getElem?_eq_getElem hi3]; rfl
  have hz := hx1 x1[i] (List.getElem_mem hi3)
  have fin : ∀ q : Nat, q ≤ 40 → Ev (fun k => bournelaw11_ScanFinds.j3 k x0 x1 (S sl) want (i : Int) (S (jk x1[i] q)) (q : Int) false (⟨#[]⟩ : ByteArray) 0) true := by
    intro q hq
    obtain ⟨j1, j2, j3⟩ := jk_lt x1[i] q
    generalize jk x1[i] q = j at *
    have hjs := S_size j1
    by_cases c : j = []
    · refine Ev.step (fun k => by simp only [bournelaw11_ScanFinds.j3]; rw [if_neg (by decide), if_pos ((toList_S j1).2 c)]) ?_
      exact finds_op x0 x1 h (by omega) (by omega) (by omega) i hi hi2 (fun sl2 want2 h2 => ih sl2 want2 (inv_mono h2 (by omega) (by omega) (by omega)))
    · have hl1 : 1 ≤ j.length := List.length_pos_iff.2 c
      obtain ⟨want', hb, h2⟩ := inv_junk h j j2 j1 hl1 (by omega) (by omega) (by omega)
      have hl2 := inv_len h2
      refine Ev.step (fun k => by simp only [bournelaw11_ScanFinds.j3]; rw [if_neg (by decide), if_neg (fun z => c ((toList_S j1).1 z)), hjs, hb, Option.bind_some, if_pos (by omega), S_cat]) ?_
      exact finds_op x0 x1 h2 (by omega) (by omega) (by omega) i hi hi2 (fun sl2 want2 h3 => ih sl2 want2 (inv_mono h3 (by omega) (by omega) (by omega)))
  induction d with
  | zero =>
    intro q hd hq hqs
    obtain rfl : q = 40 := by omega
    refine Ev.step (fun k => ?_) (fin 40 (Nat.le_refl _))
    simp only [bournelaw11_ScanFinds.l1]
    rw [if_pos (by omega), if_pos (by omega), er, decide_eq_false (by omega)]
    split <;> rfl
  | succ d ihd =>
    intro q hd hq hqs
    by_cases c : q < x1[i].size
    · have hw : wrap64 ((q : Int) + 1) = ((q + 1 : Nat) : Int) := by rw [wrap64_id (by omega) (by omega)]; omega
      have HW := Aside0.mk hw
      clear hw
      have hjs : (S (jk x1[i] q)).size ≤ 40 := by rw [S_size (jk_lt x1[i] q).1]; exact Nat.le_trans (jk_lt x1[i] q).2.2 hq
      have hxs : (x1[i].extract q (q + 1)).size ≤ 1 := by rw [ByteArray.size_extract]; exact Nat.le_trans (Nat.sub_le_sub_right (Nat.min_le_left _ _) _) (by rw [Nat.add_sub_cancel_left]; exact Nat.le_refl _)
      have hbound : (S (jk x1[i] q)).size + (x1[i].extract q (q + 1)).size ≤ 9223372036854775807 := Nat.le_trans (Nat.add_le_add hjs hxs) (by decide)
      clear hjs hxs
      have HBd := Aside0.mk hbound
      clear hbound
      have ihq := ihd (q + 1) (by omega) (by omega) (by omega)
      rw [jk_succ x1[i] q c] at ihq
      refine Ev.step (f := fun k => bournelaw11_ScanFinds.j3 k x0 x1 (S sl) want (i : Int) (S (jk x1[i] q)) (q : Int) true (⟨#[]⟩ : ByteArray) 0) (fun k => ?_) (Ev.step (fun k => ?_) ihq)
      · simp only [bournelaw11_ScanFinds.l1]
        rw [if_pos (by omega), if_pos (by omega), er, if_pos (by omega), decide_eq_true (by omega)]
      · have hx : x1[i].extract q (q + 1) = S (((L x1[i]).take (q + 1)).drop q) := by rw [← S_L0 (x1[i].extract q (q + 1)), L_extract]
        simp only [bournelaw11_ScanFinds.j3]
        rw [if_pos trivial, if_pos (by omega), if_pos (by omega), if_pos (by omega), er, if_pos (by omega), bt_L, Int.toNat_natCast, HW.out]
        by_cases c2 : (L x1[i]).getD q 0 = 181
        · rw [if_pos (by omega), if_pos c2, List.append_nil]
        · rw [if_neg (by omega), if_neg c2, if_pos (by omega), if_pos (by omega), Int.toNat_natCast, if_pos HBd.out, hx, S_cat]
    · refine Ev.step (fun k => ?_) (fin q hq)
      simp only [bournelaw11_ScanFinds.l1]
      rw [if_pos (by omega), if_pos (by omega), er, if_neg (by omega)]
theorem finds_l0 (hx0 : x0.length ≤ 4611686018427387904) (hx1 : ∀ g ∈ x1, g.size ≤ 4611686018427387904) (hx1l : x1.length ≤ 4611686018427387904) (d : Nat) : ∀ (i : Nat) (sl : List Nat) (want : List S49), 20 - i = d → i ≤ 20 → i ≤ x0.length → Inv sl want (40 * i) (94 * i) (2 * i) →
    Ev (fun k => bournelaw11_ScanFinds.l0 k x0 x1 (S sl) want (i : Int) (⟨#[]⟩ : ByteArray) 0) true := by
  induction d with
  | zero =>
    intro i sl want hd hi hl h
    refine Ev.step (f := fun k => bournelaw11_ScanFinds.j1 k x0 x1 (S sl) want (i : Int) false (⟨#[]⟩ : ByteArray) 0) (fun k => ?_) (finds_end x0 x1 (inv_mono h (by omega) (by omega) (by omega)))
    simp only [bournelaw11_ScanFinds.l0]
    rw [decide_eq_false (by omega)]
    split <;> rfl
  | succ d ih =>
    intro i sl want hd hi hl h
    by_cases c : i < x0.length
    · refine Ev.step (f := fun k => bournelaw11_ScanFinds.j1 k x0 x1 (S sl) want (i : Int) true (⟨#[]⟩ : ByteArray) 0) (fun k => ?_) ?_
      · simp only [bournelaw11_ScanFinds.l0]
        rw [if_pos (by omega), decide_eq_true (by omega)]
      · have next : ∀ sl2 want2, Inv sl2 want2 (40 * i + 40) (94 * i + 94) (2 * i + 2) → Ev (fun k => bournelaw11_ScanFinds.l0 k x0 x1 (S sl2) want2 ((i + 1 : Nat) : Int) (⟨#[]⟩ : ByteArray) 0) true := fun sl2 want2 h2 =>
          ih (i + 1) sl2 want2 (by omega) (by omega) (by omega) (inv_mono h2 (by omega) (by omega) (by omega))
        by_cases c2 : i < x1.length
        · refine Ev.step (f := fun k => bournelaw11_ScanFinds.l1 k x0 x1 (S sl) want (i : Int) (S (jk x1[i] 0)) ((0 : Nat) : Int) (⟨#[]⟩ : ByteArray) 0) (fun k => ?_) (finds_l1 x0 x1 h (by omega) (by omega) (by omega) i c (by omega) c2 hx1 next 40 0 rfl (by omega) (Nat.zero_le _))
          simp only [bournelaw11_ScanFinds.j1]
          rw [if_pos trivial, if_pos (by omega)]
          rfl
        · refine Ev.step (fun k => by simp only [bournelaw11_ScanFinds.j1]; rw [if_pos trivial, if_neg (by omega)]) ?_
          exact finds_op x0 x1 h (by omega) (by omega) (by omega) i c (by omega) (fun sl2 want2 h2 => next sl2 want2 (inv_mono h2 (by omega) (by omega) (by omega)))
    · refine Ev.step (f := fun k => bournelaw11_ScanFinds.j1 k x0 x1 (S sl) want (i : Int) false (⟨#[]⟩ : ByteArray) 0) (fun k => ?_) (finds_end x0 x1 (inv_mono h (by omega) (by omega) (by omega)))
      simp only [bournelaw11_ScanFinds.l0]
      rw [if_neg (by omega)]
theorem finds_ev (hx0 : x0.length ≤ 4611686018427387904) (hx1 : ∀ g ∈ x1, g.size ≤ 4611686018427387904) (hx1l : x1.length ≤ 4611686018427387904) : Ev (fun k => bournelaw11_ScanFinds.f k x0 x1) true := by
  have h := finds_l0 x0 x1 hx0 hx1 hx1l 20 0 [] [] rfl (by omega) (Nat.zero_le _) inv_nil
  exact h
end

theorem scanfinds_walk (A0 : Option Addr) (c0 : Nat) (l0 : List S49) (A1 : Option Addr) (c1 : Nat) (l1 : List ByteArray) (w : World) (hr0 : Kd.C k49 w A0 l0.length l0) (hc0 : l0.length ≤ c0) {Q : Prop} (g0 : l0.length * 40 ≤ 140737488351232 ∧ Q) (hr1 : Kd.C Kd.string w A1 l1.length l1) (hc1 : l1.length ≤ c1) (g1 : l1.length * 16 ≤ 140737488351232 ∧ ∀ s ∈ l1, s.size ≤ 140737488351232) :
    Calls Try.prog 5 #[.slice A0 l0.length c0, .slice A1 l1.length c1] w fun e w' => e = .returned (.bool true) ∧ Below w.heap.size w w' := by
  have h0 := g0.1
  have h1 := g1.1
  obtain ⟨k, hk⟩ := (finds_ev l0 l1 (by omega) (fun g hg => Nat.le_trans (g1.2 g hg) (by decide)) (by omega)).rounds
  exact bournelaw11_ScanFinds.calls k A0 c0 l0 A1 c1 l1 true w hr0 hc0 hr1 hc1 hk

end Go.Proofs.Ytmccgkbbgicglaa.ScanFindsMath
