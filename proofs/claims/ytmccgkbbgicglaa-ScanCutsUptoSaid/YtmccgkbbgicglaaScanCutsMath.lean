/- The law ScanCuts answers true where its text and its cuts are together of bulk at most 1048576. -/
import Derived.Test.YtmccgkbbgicglaaScanCutsW
namespace Go.Proofs.Ytmccgkbbgicglaa.ScanCutsMath
open Go.RowKit Go.Proofs.Ytmccgkbbgicglaa.QScanAll Go.Proofs.Ytmccgkbbgicglaa.ScanPure Go.Proofs.Ytmccgkbbgicglaa.ScanAwakePure Go.Proofs.Ytmccgkbbgicglaa.ScanAwake Go.Proofs.Ytmccgkbbgicglaa.ScanLoadW Go.Proofs.Ytmccgkbbgicglaa.ScanCutsW Go.Proofs.YtmccgkbbgicglaaW.PrintWords Go.Proofs.YtmccgkbbgicglaaW.PrintLast Go.Proofs.YtmccgkbbgicglaaW.PrintMore
set_option linter.unusedVariables false
set_option linter.unusedSimpArgs false

/-! ### scancut0 -/
def cntO (x : S49) : Int := if x.f0 = 3 then x.f4 else ((fr x).length : Int)
def cnt : List S49 → Int
  | [] => 0
  | x :: xs => cntO x + cnt xs
theorem cnt_app (a b : List S49) : cnt (a ++ b) = cnt a + cnt b := by
  induction a with
  | nil => simp [cnt]
  | cons x xs ih => rw [List.cons_append, cnt, ih, cnt, Int.add_assoc]
theorem cnt_tell (o : List S49) (b : Int) : cnt (tell o b) = cnt o + b := by
  unfold tell
  split
  · omega
  · rw [cnt_app]; simp [cnt, cntO]
theorem may5_kind {x : S49} (h : may5 x = true) : x.f0 ≠ 3 := by
  have := oMay_rng (show oMay x.f0 x.f1 x.f2 x.f3 x.f4 = true from h); omega
def okO (x : S49) : Prop := 0 ≤ cntO x
theorem okO_fr {x : S49} (h : may5 x = true) : okO x := by unfold okO cntO; rw [if_neg (may5_kind h)]; omega
theorem ok_tell {o : List S49} {b : Int} (h : ∀ x ∈ o, okO x) (hb : 0 ≤ b) : ∀ x ∈ tell o b, okO x := by
  intro x hx
  unfold tell at hx
  split at hx
  · exact h x hx
  · rcases List.mem_append.1 hx with hx | hx
    · exact h x hx
    · rw [List.mem_singleton.1 hx]; show 0 ≤ cntO _; unfold cntO; rw [if_pos rfl]; exact hb
theorem cnt_nn {o : List S49} (h : ∀ x ∈ o, okO x) : 0 ≤ cnt o := by
  induction o with
  | nil => exact Int.le_refl _
  | cons x xs ih =>
    have h1 : 0 ≤ cntO x := h x (List.mem_cons_self ..)
    have h2 := ih (fun y hy => h y (List.mem_cons_of_mem _ hy))
    rw [cnt]; omega
theorem run_count {last : Bool} {l : List Nat} {o : List S49} {b : Int} {o' : List S49} {l' : List Nat} {b' : Int} (h : Run last l o b o' l' b') :
    (∀ y ∈ l, y < 256) → 0 ≤ b → b + l.length ≤ 1073741823 → (∀ x ∈ o, okO x) → cnt o' + b' + l'.length = cnt o + b + l.length ∧ 0 ≤ b' ∧ b' ≤ 1073741823 ∧ (∀ x ∈ o', okO x) ∧ o'.length + l'.length ≤ o.length + l.length := by
  induction h with
  | nil o b => intro _ h0 h1 ho; exact ⟨by simp, h0, by simpa using h1, ho, by simp⟩
  | cut l o b _ _ _ => intro _ h0 h1 ho; exact ⟨rfl, h0, by omega, ho, Nat.le_refl _⟩
  | bad c t o b o' l' b' _ _ _ ih =>
    intro hb h0 h1 ho
    rw [List.length_cons] at h1
    have e := bump_eq (b := b) (by omega)
    obtain ⟨i1, i2, i3, i4, i5⟩ := ih (fun y hy => hb y (List.mem_cons_of_mem _ hy)) (by omega) (by omega) ho
    rw [List.length_cons]
    exact ⟨by omega, i2, i3, i4, by omega⟩
  | op l o b x n o' l' b' hh _ ih =>
    intro hb h0 h1 ho
    obtain ⟨hm, hf, hn⟩ := hit_inv hb hh
    have hl := hit_len hh
    have hd : (l.drop n).length = l.length - n := List.length_drop ..
    obtain ⟨i1, i2, i3, i4, i5⟩ := ih (fun y hy => hb y (List.mem_of_mem_drop hy)) (Int.le_refl _) (by omega) (fun y hy => by
      rcases List.mem_append.1 hy with hy | hy
      · exact ok_tell ho h0 y hy
      · rw [List.mem_singleton.1 hy]; exact okO_fr hm)
    rw [cnt_app, cnt_tell] at i1
    have e : cnt [x] = (n : Int) := by simp only [cnt, cntO]; rw [if_neg (may5_kind hm), hn]; omega
    have ht := tell_len o b
    rw [List.length_append, List.length_singleton] at i5
    exact ⟨by omega, i2, i3, i4, by omega⟩
theorem run_true (n : Nat) : ∀ (l : List Nat) (o : List S49) (b : Int), l.length = n → ∃ o' b', Run true l o b o' [] b' := by
  induction n using Nat.strongRecOn with
  | _ n ih =>
    intro l o b hl
    cases l with
    | nil => exact ⟨o, b, Run.nil o b⟩
    | cons c t =>
      cases e : hit (c :: t) with
      | none =>
        rw [List.length_cons] at hl
        obtain ⟨o', b', h⟩ := ih t.length (by omega) t o (bump b) rfl
        exact ⟨o', b', Run.bad c t o b o' [] b' (fun _ => rfl) e h⟩
      | some q =>
        obtain ⟨x, m⟩ := q
        have hm := hit_len e
        obtain ⟨o', b', h⟩ := ih ((c :: t).drop m).length (by rw [List.length_drop]; omega) _ (tell o b ++ [x]) 0 rfl
        exact ⟨o', b', Run.op (c :: t) o b x m o' [] b' e h⟩
def led (o : List S49) : Prop := ∃ x r, o = x :: r ∧ x.f0 = 3
theorem led_app {o : List S49} (h : led o) (r : List S49) : led (o ++ r) := by
  obtain ⟨x, t, rfl, hx⟩ := h
  exact ⟨x, t ++ r, by simp, hx⟩
theorem led_tell {o : List S49} {b : Int} (h : led o ∨ o = [] ∧ 1 ≤ b) : led (tell o b) := by
  unfold tell
  rcases h with h | ⟨rfl, hb⟩
  · split
    · exact h
    · exact led_app h _
  · rw [if_neg (by omega)]; exact ⟨_, [], rfl, rfl⟩
theorem run_led {last : Bool} {l : List Nat} {o : List S49} {b : Int} {o' : List S49} {l' : List Nat} {b' : Int} (h : Run last l o b o' l' b') :
    0 ≤ b → b + l.length ≤ 1073741823 → (led o ∨ o = [] ∧ 1 ≤ b) → led o' ∨ o' = [] ∧ 1 ≤ b' := by
  induction h with
  | nil o b => intro _ _ h; exact h
  | cut l o b _ _ _ => intro _ _ h; exact h
  | bad c t o b o' l' b' _ _ _ ih =>
    intro h0 h1 h
    rw [List.length_cons] at h1
    have e := bump_eq (b := b) (by omega)
    exact ih (by omega) (by omega) (h.imp id (fun z => ⟨z.1, by omega⟩))
  | op l o b x n o' l' b' hh _ ih =>
    intro h0 h1 h
    have hd : (l.drop n).length ≤ l.length := by rw [List.length_drop]; omega
    exact ih (Int.le_refl _) (by omega) (.inl (led_app (led_tell h) _))
theorem rd_at (l : List S49) (i : Nat) (h : i < l.length) : rd_T49 l (i : Int) = l[i] := by
  unfold rd_T49
  rw [Int.toNat_natCast, List.getD_eq_getElem?_getD, List.getElem?_eq_getElem h]; rfl
theorem cnt_take (l : List S49) (i : Nat) (h : i < l.length) : cnt (l.take (i + 1)) = cnt (l.take i) + cntO l[i] := by
  rw [List.take_succ_eq_append_getElem h, cnt_app]; simp [cnt]
theorem toList_S {l : List Nat} (h : ∀ y ∈ l, y < 256) : ((S l).toList = ([] : List UInt8)) ↔ l = [] := by
  rw [toList_lit, L_S h]; rfl
theorem S_nil_l : (S []).toList = ([] : List UInt8) := (toList_S (fun _ h => by cases h)).2 rfl
theorem waits_ev (s : ByteArray) (b : Int) : scan_Scanner_Waits.f s b = some (s, s, b) := rfl
theorem bad_ev (s : ByteArray) (b : Int) : scan_Scanner_Bad.f s b = some (b, s, b) := rfl
theorem take_lt {l : List Nat} (h : ∀ y ∈ l, y < 256) (n : Nat) : ∀ y ∈ l.take n, y < 256 := fun y hy => h y (List.mem_of_mem_take hy)

/-! ### scanrun -/
theorem run_facts {last : Bool} {l : List Nat} {o : List S49} {b : Int} {o' : List S49} {l' : List Nat} {b' : Int} (h : Run last l o b o' l' b') :
    (∀ y ∈ l, y < 256) → 0 ≤ b → b ≤ 1073741823 → 0 ≤ b' ∧ b' ≤ 1073741823 ∧ o'.length + l'.length ≤ o.length + l.length ∧ (∀ y ∈ l', y < 256) ∧ l'.length ≤ l.length := by
  induction h with
  | nil o b => intro hb h0 h1; exact ⟨h0, h1, Nat.le_refl _, hb, Nat.le_refl _⟩
  | cut l o b _ _ _ => intro hb h0 h1; exact ⟨h0, h1, Nat.le_refl _, hb, Nat.le_refl _⟩
  | bad c t o b o' l' b' _ _ _ ih =>
    intro hb h0 h1
    have e := bump_le b h0 h1
    obtain ⟨i1, i2, i3, i4, i5⟩ := ih (fun y hy => hb y (List.mem_cons_of_mem _ hy)) e.1 e.2
    rw [List.length_cons]
    exact ⟨i1, i2, by omega, i4, by omega⟩
  | op l o b x n o' l' b' hh _ ih =>
    intro hb h0 h1
    have hl := hit_len hh
    have hd : (l.drop n).length = l.length - n := List.length_drop ..
    obtain ⟨i1, i2, i3, i4, i5⟩ := ih (fun y hy => hb y (List.mem_of_mem_drop hy)) (Int.le_refl _) (by decide)
    have ht := tell_len o b
    rw [List.length_append, List.length_singleton] at i3
    exact ⟨i1, i2, by omega, i4, by omega⟩
theorem run_cutend {last : Bool} {l : List Nat} {o : List S49} {b : Int} {o' : List S49} {l' : List Nat} {b' : Int} (h : Run last l o b o' l' b') : l' = [] ∨ isCut l' = true := by
  induction h with
  | nil o b => exact .inl rfl
  | cut l o b _ hc _ => exact .inr hc
  | bad c t o b o' l' b' _ _ _ ih => exact ih
  | op l o b x n o' l' b' hh _ ih => exact ih
theorem run_ex (last : Bool) (n : Nat) : ∀ (l : List Nat) (o : List S49) (b : Int), l.length = n → ∃ o' l' b', Run last l o b o' l' b' := by
  induction n using Nat.strongRecOn with
  | _ n ih =>
    intro l o b hl
    cases l with
    | nil => exact ⟨o, [], b, Run.nil o b⟩
    | cons c t =>
      rw [List.length_cons] at hl
      by_cases hc : isCut (c :: t) = true ∧ last = false
      · exact ⟨o, c :: t, b, Run.cut _ o b (by simp) hc.1 hc.2⟩
      · have hc2 : isCut (c :: t) = true → last = true := fun z => by
          cases last with
          | true => rfl
          | false => exact absurd ⟨z, rfl⟩ hc
        cases e : hit (c :: t) with
        | none =>
          obtain ⟨o', l', b', h⟩ := ih t.length (by omega) t o (bump b) rfl
          exact ⟨o', l', b', Run.bad c t o b o' l' b' hc2 e h⟩
        | some q =>
          obtain ⟨x, m⟩ := q
          have hm := hit_len e
          obtain ⟨o', l', b', h⟩ := ih ((c :: t).drop m).length (by rw [List.length_drop, List.length_cons]; omega) _ (tell o b ++ [x]) 0 rfl
          exact ⟨o', l', b', Run.op (c :: t) o b x m o' l' b' e h⟩
/-- What a writing answers: some operations, what waits. -/
theorem write_ex (w s : ByteArray) (hs : w.size + s.size ≤ 100000000) {b : Int} (h0 : 0 ≤ b) (h1 : b ≤ 1073741823) :
    ∃ (o' : List S49) (l' : List Nat) (b' : Int), Run false (L w ++ L s) [] b o' l' b' ∧ Ev (fun k => scan_Scanner_Write.f k w b s) (o', S l', b') ∧ 0 ≤ b' ∧ b' ≤ 1073741823 ∧ o'.length ≤ 100000000 ∧ (∀ y ∈ l', y < 256) ∧ (S l').size ≤ w.size + s.size ∧ (l' = [] ∨ isCut l' = true) := by
  obtain ⟨o', l', b', h⟩ := run_ex false _ (L w ++ L s) [] b rfl
  have hlt : ∀ y ∈ L w ++ L s, y < 256 := fun y hy => by
    rcases List.mem_append.1 hy with hy | hy
    · exact L_lt w y hy
    · exact L_lt s y hy
  obtain ⟨f1, f2, f3, f4, f5⟩ := run_facts h hlt h0 h1
  have hl : (L w ++ L s).length = w.size + s.size := by rw [List.length_append, L_len, L_len]
  have hz := S_size f4
  rw [List.length_nil] at f3
  exact ⟨o', l', b', h, scan_write w s (by omega) h0 h1 h, f1, f2, by omega, f4, by omega, run_cutend h⟩
theorem close_ex (w : ByteArray) (hs : w.size ≤ 100000000) {b : Int} (h0 : 0 ≤ b) (h1 : b ≤ 1073741823) :
    ∃ (o' : List S49) (b' : Int), Run true (L w) [] b o' [] b' ∧ Ev (fun k => scan_Scanner_Close.f k w b) (tell o' b', S [], 0) ∧ (tell o' b').length ≤ 100000001 := by
  obtain ⟨o', b', h⟩ := run_true _ (L w) [] b rfl
  obtain ⟨f1, f2, f3, f4, f5⟩ := run_facts h (L_lt w) h0 h1
  have hl := L_len w
  have ht := tell_len o' b'
  rw [List.length_nil, List.length_nil] at f3
  exact ⟨o', b', h, scan_close w (by omega) h0 h1 h, by omega⟩

/-! ### runcat -/
theorem tell_app (o : List S49) (b : Int) : tell o b = o ++ tell [] b := by
  unfold tell; split <;> simp
theorem run_out {last : Bool} {l : List Nat} {o : List S49} {b : Int} {o' : List S49} {l' : List Nat} {b' : Int} (h : Run last l o b o' l' b') (p : List S49) : Run last l (p ++ o) b (p ++ o') l' b' := by
  induction h with
  | nil o b => exact Run.nil _ _
  | cut l o b h1 h2 h3 => exact Run.cut _ _ _ h1 h2 h3
  | bad c t o b o' l' b' h1 h2 _ ih => exact Run.bad _ _ _ _ _ _ _ h1 h2 ih
  | op l o b x n o' l' b' hh _ ih =>
    refine Run.op _ _ _ x n _ _ _ hh ?_
    have e : tell (p ++ o) b ++ [x] = p ++ (tell o b ++ [x]) := by rw [tell_app (p ++ o), tell_app o]; simp
    rw [e]; exact ih
theorem run_det {last : Bool} {l : List Nat} {o : List S49} {b : Int} {o1 : List S49} {l1 : List Nat} {b1 : Int} (h : Run last l o b o1 l1 b1) :
    ∀ {o2 : List S49} {l2 : List Nat} {b2 : Int}, Run last l o b o2 l2 b2 → o1 = o2 ∧ l1 = l2 ∧ b1 = b2 := by
  induction h with
  | nil o b =>
    intro o2 l2 b2 k
    cases k with
    | nil => exact ⟨rfl, rfl, rfl⟩
    | cut _ _ _ h => exact absurd rfl h
    | op _ _ _ x n _ _ _ hh => rw [hit_nil] at hh; cases hh
  | cut l o b h1 h2 h3 =>
    intro o2 l2 b2 k
    cases k with
    | nil => exact absurd rfl h1
    | cut => exact ⟨rfl, rfl, rfl⟩
    | bad c t _ _ _ _ _ g1 => have := g1 h2; rw [h3] at this; cases this
    | op _ _ _ x n _ _ _ hh => rw [hit_cut h2] at hh; cases hh
  | bad c t o b o' l' b' h1 h2 _ ih =>
    intro o2 l2 b2 k
    cases k with
    | cut _ _ _ g1 g2 g3 => have := h1 g2; rw [g3] at this; cases this
    | bad _ _ _ _ _ _ _ _ _ kr => exact ih kr
    | op _ _ _ x n _ _ _ hh => rw [h2] at hh; cases hh
  | op l o b x n o' l' b' hh _ ih =>
    intro o2 l2 b2 k
    cases k with
    | nil => rw [hit_nil] at hh; cases hh
    | cut _ _ _ g1 g2 g3 => rw [hit_cut g2] at hh; cases hh
    | bad c t _ _ _ _ _ _ g2 => rw [g2] at hh; cases hh
    | op _ _ _ y m _ _ _ gg kr =>
      rw [hh] at gg
      obtain ⟨rfl, rfl⟩ := Prod.mk.inj (Option.some.inj gg)
      exact ih kr
theorem getD_ext (a c : List Nat) (i : Nat) (h : i < a.length) : (a ++ c).getD i 0 = a.getD i 0 := by
  rw [List.getD_eq_getElem?_getD, List.getD_eq_getElem?_getD, List.getElem?_append_left h]
theorem getF_ext {a : List Nat} (c : List Nat) (h1 : a ≠ []) (h2 : isCut a = false) : getF (a ++ c) 0 = getF a 0 ∧ (a ++ c).getD 1 0 + 4 = (if (getF a 0).2.2 = 0 then a.getD 1 0 + 4 else (a ++ c).getD 1 0 + 4) := by
  have hp : 0 < a.length := List.length_pos_iff.2 h1
  have e0 := getD_ext a c 0 hp
  have hl : (a ++ c).length = a.length + c.length := List.length_append ..
  have hne : (getF a 0).2.2 ≠ 801 := of_decide_eq_false h2
  by_cases z1 : 1 < a.length
  · have e1 := getD_ext a c 1 z1
    refine ⟨?_, by rw [e1]; split <;> rfl⟩
    unfold getF at hne ⊢
    rw [e0, e1]
    by_cases c1 : (0 < a.length ∧ a.getD 0 0 ≠ 181) ∨ (1 < a.length ∧ (a.getD 1 0 < 1 ∨ 60 < a.getD 1 0))
    · rw [if_pos c1, if_pos (by omega)]
    · rw [if_neg c1, if_neg (by omega)]
      rw [if_neg c1] at hne
      by_cases c2 : a.length < 2 ∨ a.length < a.getD 1 0 + 4
      · rw [if_pos c2] at hne; exact absurd rfl hne
      · rw [if_neg c2, if_neg (by omega), List.take_append_of_le_length (by omega), List.take_append_of_le_length (by omega)]
  · have hl1 : a.length = 1 := by omega
    have h0 : a.getD 0 0 ≠ 181 := by
      intro z
      unfold getF at hne
      rw [if_neg (by omega), if_pos (by omega)] at hne
      exact hne rfl
    have ea : getF a 0 = ([], 0, 800) := by unfold getF; rw [if_pos (.inl ⟨hp, h0⟩)]
    refine ⟨?_, by rw [ea]; rfl⟩
    rw [ea]
    unfold getF
    rw [e0, if_pos (.inl ⟨by omega, h0⟩)]
theorem hit_ext {a : List Nat} (c : List Nat) (h1 : a ≠ []) (h2 : isCut a = false) : hit (a ++ c) = hit a ∧ isCut (a ++ c) = false := by
  obtain ⟨e, e2⟩ := getF_ext c h1 h2
  refine ⟨?_, by unfold isCut; rw [e]; exact h2⟩
  unfold hit
  rw [e, e2]
  by_cases z : (getF a 0).2.2 = 0
  · rw [if_pos z]
  · rw [if_neg (fun q => z q.1), if_neg (fun q => z q.1)]
theorem cut_nil : isCut [] = true := by decide +kernel
theorem hit_not_cut {l : List Nat} {q : S49 × Nat} (h : hit l = some q) : isCut l = false := by
  cases e : isCut l with
  | false => rfl
  | true => rw [hit_cut e] at h; cases h
/-- What was read of a beginning is what is read of the whole. -/
theorem run_ext {last : Bool} {a c : List Nat} {o : List S49} {b : Int} {o1 : List S49} {l1 : List Nat} {b1 : Int} {o' : List S49} {l' : List Nat} {b' : Int} (h : Run false a o b o1 l1 b1) :
    Run last (l1 ++ c) o1 b1 o' l' b' → Run last (a ++ c) o b o' l' b' := by
  induction h with
  | nil o b => intro k; exact k
  | cut l o b h1 h2 h3 => intro k; exact k
  | bad x t o b o1 l1 b1 h1 h2 _ ih =>
    intro k
    have hc : isCut (x :: t) = false := by
      cases e : isCut (x :: t) with
      | false => rfl
      | true => cases h1 e
    obtain ⟨e1, e2⟩ := hit_ext c (by simp) hc
    exact Run.bad x (t ++ c) o b o' l' b' (fun z => by rw [List.cons_append] at e2; rw [e2] at z; cases z) (by rw [List.cons_append] at e1; rw [e1]; exact h2) (ih k)
  | op l o b x n o1 l1 b1 hh _ ih =>
    intro k
    have hn := hit_len hh
    have hne : l ≠ [] := fun z => by rw [z, hit_nil] at hh; cases hh
    obtain ⟨e1, _⟩ := hit_ext c hne (hit_not_cut hh)
    refine Run.op _ _ _ x n _ _ _ (e1.trans hh) ?_
    rw [List.drop_append_of_le_length (by omega)]
    exact ih k

theorem copy_ev (l : List S49) (h : l.length ≤ 100000000) : bournelaw0_CopyOps.f l = some l := by
  unfold bournelaw0_CopyOps.f
  rw [Option.bind_some, if_pos (by simp; omega), List.nil_append]
/-- What was read up to a place. -/
def Upto (s : ByteArray) (a : Nat) (xs : List S49) (lw : ByteArray) (bw : Int) : Prop :=
  ∃ l, lw = S l ∧ (∀ y ∈ l, y < 256) ∧ l.length ≤ s.size ∧ 0 ≤ bw ∧ bw ≤ 1073741823 ∧ xs.length ≤ 100000000 ∧ Run false ((L s).take a) [] 0 xs l bw
theorem scancuts_walk (s : ByteArray) (A1 : Option Addr) (c1 : Nat) (cuts : List Int) (w : World) (hs : s.size ≤ 1048576) (hr : Kd.C (Kd.int .i64) w A1 cuts.length cuts) (hc : cuts.length ≤ c1) {Q : Prop} (g : cuts.length * 8 ≤ 140737488351232 ∧ Q) :
    Calls Try.prog 4 #[.string s, .slice A1 cuts.length c1] w fun e w' => e = .returned (.bool true) ∧ Below w.heap.size w w' := by
  have hg := g.1
  have x0 : (⟨#[]⟩ : ByteArray).size = 0 := rfl
  have xn : L (⟨#[]⟩ : ByteArray) = [] := by decide +kernel
  have hLs := L_len s
  obtain ⟨o1, l1, b1, r1, ⟨k1, h1⟩, p1, q1, n1, t1, z1, c1_⟩ := write_ex (⟨#[]⟩ : ByteArray) s (by omega) (b := 0) (by decide) (by decide)
  obtain ⟨o2, b2, r2, ⟨k2, h2⟩, n2⟩ := close_ex (S l1) (by omega) p1 q1
  rw [xn, List.nil_append] at r1
  rw [L_S t1] at r2
  -- the whole in one run
  have rw_ : Run true (L s) [] 0 (o1 ++ o2) [] b2 := by
    have e := run_out r2 o1
    rw [List.append_nil] at e
    have := run_ext (c := []) r1 (by rw [List.append_nil]; exact e)
    rw [List.append_nil] at this
    exact this
  have hwant : o1 ++ tell o2 b2 = tell (o1 ++ o2) b2 := by rw [tell_app o2, tell_app (o1 ++ o2)]; simp
  have hwl : (o1 ++ tell o2 b2).length ≤ 300000000 := by rw [List.length_append]; omega
  obtain ⟨k3, h3⟩ := same_ev (o1 ++ tell o2 b2) (by omega)
  refine cuts_calls (k1 + k2 + k3) s (S l1) b1 A1 c1 cuts o1 (tell o2 b2) (o1 ++ tell o2 b2) (Upto s) w hc ⟨awake_all⟩ ⟨hr⟩ ⟨by omega⟩ ⟨hs⟩ ⟨h1 _ (by omega)⟩ ⟨copy_ev o1 (by omega)⟩ ⟨h2 _ (by omega)⟩ ⟨rfl⟩ ⟨by omega, by omega⟩ ⟨h3 _ (by omega)⟩ ?_ ?_ ?_ ?_
  · exact ⟨[], rfl, (fun _ h => by cases h), Nat.zero_le _, by decide, by decide, Nat.zero_le _, by rw [List.take_zero]; exact Run.nil _ _⟩
  · exact ⟨fun a xs lw bw h => by obtain ⟨l, _, _, _, _, _, h, _⟩ := h; exact h⟩
  · refine ⟨fun a xs lw bw h k ha hk => ?_⟩
    obtain ⟨l, rfl, f1, f2, f3, f4, f5, f6⟩ := h
    have hz := S_size f1
    have hxs : (s.extract a k).size ≤ s.size := by rw [ByteArray.size_extract]; omega
    obtain ⟨o', l', b', r', ⟨kk, hk'⟩, p', q', n', t', z', c'⟩ := write_ex (S l) (s.extract a k) (by omega) f3 f4
    have e1 := run_out r' xs
    rw [List.append_nil, L_S f1, L_extract] at e1
    have e2 : (L s).take a ++ ((L s).take k).drop a = (L s).take k := by
      have e : (L s).take a = ((L s).take k).take a := by rw [List.take_take, Nat.min_eq_left ha]
      rw [e, List.take_append_drop]
    have e3 := run_ext f6 e1
    rw [e2] at e3
    have f := run_facts e3 (take_lt (L_lt s) k) (Int.le_refl _) (by decide)
    have htk : ((L s).take k).length ≤ s.size := by rw [List.length_take]; omega
    rw [List.length_nil] at f
    exact ⟨kk, o', S l', b', hk' kk (Nat.le_refl _), l', rfl, t', by omega, p', q', by omega, e3⟩
  · refine ⟨fun xs lw bw h => ?_⟩
    obtain ⟨l, rfl, f1, f2, f3, f4, f5, f6⟩ := h
    have hz := S_size f1
    obtain ⟨o', b', r', ⟨kk, hk'⟩, n'⟩ := close_ex (S l) (by omega) f3 f4
    have e1 := run_out r' xs
    rw [List.append_nil, L_S f1] at e1
    have e2 := run_ext (c := []) f6 (by rw [List.append_nil]; exact e1)
    rw [List.append_nil, List.take_of_length_le (by omega)] at e2
    obtain ⟨d1, -, d2⟩ := run_det e2 rw_
    refine ⟨kk, tell o' b', hk' kk (Nat.le_refl _), ?_⟩
    have e3 : xs ++ tell o' b' = tell (xs ++ o') b' := by rw [tell_app o', tell_app (xs ++ o')]; simp
    rw [e3, hwant, d1, d2]

end Go.Proofs.Ytmccgkbbgicglaa.ScanCutsMath
