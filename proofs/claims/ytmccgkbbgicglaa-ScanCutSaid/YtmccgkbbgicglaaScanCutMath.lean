/- The law ScanCut answers true at any two operations. No condition. -/
import Derived.Test.YtmccgkbbgicglaaQScanAllx12
import Derived.Test.YtmccgkbbgicglaaScanAwakePure
namespace Go.Proofs.Ytmccgkbbgicglaa.ScanCutMath
open Go.RowKit Go.Proofs.Ytmccgkbbgicglaa.QScanAll Go.Proofs.Ytmccgkbbgicglaa.ScanPure Go.Proofs.Ytmccgkbbgicglaa.ScanAwakePure Go.Proofs.YtmccgkbbgicglaaW.PrintWords Go.Proofs.YtmccgkbbgicglaaW.PrintLast Go.Proofs.YtmccgkbbgicglaaW.PrintMore
set_option linter.unusedVariables false
set_option linter.unusedSimpArgs false

/-! ### scancut0 -/
def cntO (x : S49) : Int := if x.f0 = 3 then x.f4 else ((fr x).length : Int)
def cnt : List S49 → Int
  | [] => 0
  | x :: xs => cntO x + cnt xs
theorem cnt_app (a b : List S49) : cnt (a ++ b) = cnt a + cnt b := by
  induction a with
  | nil => simp [cnt]
  | cons x xs ih => rw [List.cons_append, cnt, ih, cnt, Int.add_assoc]
theorem cnt_tell (o : List S49) (b : Int) : cnt (tell o b) = cnt o + b := by
  unfold tell
  split
  · omega
  · rw [cnt_app]; simp [cnt, cntO]
theorem may5_kind {x : S49} (h : may5 x = true) : x.f0 ≠ 3 := by
  have := oMay_rng (show oMay x.f0 x.f1 x.f2 x.f3 x.f4 = true from h); omega
def okO (x : S49) : Prop := 0 ≤ cntO x
theorem okO_fr {x : S49} (h : may5 x = true) : okO x := by unfold okO cntO; rw [if_neg (may5_kind h)]; omega
theorem ok_tell {o : List S49} {b : Int} (h : ∀ x ∈ o, okO x) (hb : 0 ≤ b) : ∀ x ∈ tell o b, okO x := by
  intro x hx
  unfold tell at hx
  split at hx
  · exact h x hx
  · rcases List.mem_append.1 hx with hx | hx
    · exact h x hx
    · rw [List.mem_singleton.1 hx]; show 0 ≤ cntO _; unfold cntO; rw [if_pos rfl]; exact hb
theorem cnt_nn {o : List S49} (h : ∀ x ∈ o, okO x) : 0 ≤ cnt o := by
  induction o with
  | nil => exact Int.le_refl _
  | cons x xs ih =>
    have h1 : 0 ≤ cntO x := h x (List.mem_cons_self ..)
    have h2 := ih (fun y hy => h y (List.mem_cons_of_mem _ hy))
    rw [cnt]; omega
theorem run_count {last : Bool} {l : List Nat} {o : List S49} {b : Int} {o' : List S49} {l' : List Nat} {b' : Int} (h : Run last l o b o' l' b') :
    (∀ y ∈ l, y < 256) → 0 ≤ b → b + l.length ≤ 1073741823 → (∀ x ∈ o, okO x) → cnt o' + b' + l'.length = cnt o + b + l.length ∧ 0 ≤ b' ∧ b' ≤ 1073741823 ∧ (∀ x ∈ o', okO x) ∧ o'.length + l'.length ≤ o.length + l.length := by
  induction h with
  | nil o b => intro _ h0 h1 ho; exact ⟨by simp, h0, by simpa using h1, ho, by simp⟩
  | cut l o b _ _ _ => intro _ h0 h1 ho; exact ⟨rfl, h0, by omega, ho, Nat.le_refl _⟩
  | bad c t o b o' l' b' _ _ _ ih =>
    intro hb h0 h1 ho
    rw [List.length_cons] at h1
    have e := bump_eq (b := b) (by omega)
    obtain ⟨i1, i2, i3, i4, i5⟩ := ih (fun y hy => hb y (List.mem_cons_of_mem _ hy)) (by omega) (by omega) ho
    rw [List.length_cons]
    exact ⟨by omega, i2, i3, i4, by omega⟩
  | op l o b x n o' l' b' hh _ ih =>
    intro hb h0 h1 ho
    obtain ⟨hm, hf, hn⟩ := hit_inv hb hh
    have hl := hit_len hh
    have hd : (l.drop n).length = l.length - n := List.length_drop ..
    obtain ⟨i1, i2, i3, i4, i5⟩ := ih (fun y hy => hb y (List.mem_of_mem_drop hy)) (Int.le_refl _) (by omega) (fun y hy => by
      rcases List.mem_append.1 hy with hy | hy
      · exact ok_tell ho h0 y hy
      · rw [List.mem_singleton.1 hy]; exact okO_fr hm)
    rw [cnt_app, cnt_tell] at i1
    have e : cnt [x] = (n : Int) := by simp only [cnt, cntO]; rw [if_neg (may5_kind hm), hn]; omega
    have ht := tell_len o b
    rw [List.length_append, List.length_singleton] at i5
    exact ⟨by omega, i2, i3, i4, by omega⟩
theorem run_true (n : Nat) : ∀ (l : List Nat) (o : List S49) (b : Int), l.length = n → ∃ o' b', Run true l o b o' [] b' := by
  induction n using Nat.strongRecOn with
  | _ n ih =>
    intro l o b hl
    cases l with
    | nil => exact ⟨o, b, Run.nil o b⟩
    | cons c t =>
      cases e : hit (c :: t) with
      | none =>
        rw [List.length_cons] at hl
        obtain ⟨o', b', h⟩ := ih t.length (by omega) t o (bump b) rfl
        exact ⟨o', b', Run.bad c t o b o' [] b' (fun _ => rfl) e h⟩
      | some q =>
        obtain ⟨x, m⟩ := q
        have hm := hit_len e
        obtain ⟨o', b', h⟩ := ih ((c :: t).drop m).length (by rw [List.length_drop]; omega) _ (tell o b ++ [x]) 0 rfl
        exact ⟨o', b', Run.op (c :: t) o b x m o' [] b' e h⟩
def led (o : List S49) : Prop := ∃ x r, o = x :: r ∧ x.f0 = 3
theorem led_app {o : List S49} (h : led o) (r : List S49) : led (o ++ r) := by
  obtain ⟨x, t, rfl, hx⟩ := h
  exact ⟨x, t ++ r, by simp, hx⟩
theorem led_tell {o : List S49} {b : Int} (h : led o ∨ o = [] ∧ 1 ≤ b) : led (tell o b) := by
  unfold tell
  rcases h with h | ⟨rfl, hb⟩
  · split
    · exact h
    · exact led_app h _
  · rw [if_neg (by omega)]; exact ⟨_, [], rfl, rfl⟩
theorem run_led {last : Bool} {l : List Nat} {o : List S49} {b : Int} {o' : List S49} {l' : List Nat} {b' : Int} (h : Run last l o b o' l' b') :
    0 ≤ b → b + l.length ≤ 1073741823 → (led o ∨ o = [] ∧ 1 ≤ b) → led o' ∨ o' = [] ∧ 1 ≤ b' := by
  induction h with
  | nil o b => intro _ _ h; exact h
  | cut l o b _ _ _ => intro _ _ h; exact h
  | bad c t o b o' l' b' _ _ _ ih =>
    intro h0 h1 h
    rw [List.length_cons] at h1
    have e := bump_eq (b := b) (by omega)
    exact ih (by omega) (by omega) (h.imp id (fun z => ⟨z.1, by omega⟩))
  | op l o b x n o' l' b' hh _ ih =>
    intro h0 h1 h
    have hd : (l.drop n).length ≤ l.length := by rw [List.length_drop]; omega
    exact ih (Int.le_refl _) (by omega) (.inl (led_app (led_tell h) _))
theorem rd_at (l : List S49) (i : Nat) (h : i < l.length) : rd_T49 l (i : Int) = l[i] := by
  unfold rd_T49
  rw [Int.toNat_natCast, List.getD_eq_getElem?_getD, List.getElem?_eq_getElem h]; rfl
theorem cnt_take (l : List S49) (i : Nat) (h : i < l.length) : cnt (l.take (i + 1)) = cnt (l.take i) + cntO l[i] := by
  rw [List.take_succ_eq_append_getElem h, cnt_app]; simp [cnt]
theorem toList_S {l : List Nat} (h : ∀ y ∈ l, y < 256) : ((S l).toList = ([] : List UInt8)) ↔ l = [] := by
  rw [toList_lit, L_S h]; rfl
theorem S_nil_l : (S []).toList = ([] : List UInt8) := (toList_S (fun _ h => by cases h)).2 rfl
theorem waits_ev (s : ByteArray) (b : Int) : scan_Scanner_Waits.f s b = some (s, s, b) := rfl
theorem bad_ev (s : ByteArray) (b : Int) : scan_Scanner_Bad.f s b = some (b, s, b) := rfl
theorem take_lt {l : List Nat} (h : ∀ y ∈ l, y < 256) (n : Nat) : ∀ y ∈ l.take n, y < 256 := fun y hy => h y (List.mem_of_mem_take hy)

/-! ### scancut -/
theorem cut_l1 (t : ByteArray) (h : List S49) (hh : h = []) (xs : List S49) (hok : ∀ x ∈ xs, okO x) (hled : led xs) (hn : xs.length ≤ 1000) (hc : cnt xs = (t.size : Int) - 1) (ht : t.size ≤ 64) (d : Nat) :
    ∀ i : Nat, xs.length - i = d → i ≤ xs.length → Ev (fun k => bournelaw11_ScanCut.l1 k t h xs (cnt (xs.take i)) (i : Int) (S []) 0) true := by
  have hnn : ∀ i, 0 ≤ cnt (xs.take i) := fun i => cnt_nn (fun x hx => hok x (List.mem_of_mem_take hx))
  have hle : ∀ i, cnt (xs.take i) ≤ cnt xs := fun i => by
    have h1 := cnt_app (xs.take i) (xs.drop i)
    rw [List.take_append_drop] at h1
    have h2 : 0 ≤ cnt (xs.drop i) := cnt_nn (fun x hx => hok x (List.mem_of_mem_drop hx))
    omega
  induction d with
  | zero =>
    intro i hd hi
    obtain rfl : i = xs.length := by omega
    obtain ⟨x, r, rfl, hx⟩ := hled
    refine Ev.step (f := fun _ => some true) (fun k => ?_) (Ev.now _)
    simp only [bournelaw11_ScanCut.l1]
    have hw : wrap64 ((t.size : Int) - 1) = (t.size : Int) - 1 := wrap64_id (by omega) (by omega)
    have r0 : rd_T49 (x :: r) 0 = x := rfl
    rw [if_neg (by omega), hh, if_pos (by rfl), if_pos (by rw [List.length_cons]; omega), if_pos (by rw [List.length_cons]; omega), r0, if_pos hx, if_pos (by rw [List.take_length, hc, hw]), waits_ev, Option.bind_some, if_pos S_nil_l, bad_ev]
    rfl
  | succ d ih =>
    intro i hd hi
    have hi2 : i < xs.length := by omega
    have hw : wrap64 ((i : Int) + 1) = ((i + 1 : Nat) : Int) := by rw [wrap64_id (by omega) (by omega)]; omega
    have ih' := ih (i + 1) (by omega) (by omega)
    have a1 := hnn (i + 1); have a2 := hle (i + 1); have a3 := hnn i
    rw [cnt_take xs i hi2] at ih' a1 a2
    have hw2 : wrap64 (cnt (xs.take i) + cntO xs[i]) = cnt (xs.take i) + cntO xs[i] := wrap64_id (by omega) (by omega)
    by_cases c : xs[i].f0 = 3
    · have e : cntO xs[i] = xs[i].f4 := if_pos c
      rw [e] at ih' hw2
      refine Ev.step (fun k => ?_) ih'
      simp only [bournelaw11_ScanCut.l1]
      rw [if_pos (by omega), if_pos (by omega), rd_at xs i hi2, if_pos c, hw, hw2]
    · have e : cntO xs[i] = ((fr xs[i]).length : Int) := if_neg c
      rw [e] at ih' hw2
      have hf : Ev (fun k => bournelaw11_framed.f k xs[i].f0 xs[i].f1 xs[i].f2 xs[i].f3 xs[i].f4) (S (fr xs[i])) := framed_ev xs[i].f0 xs[i].f1 xs[i].f2 xs[i].f3 xs[i].f4
      refine Ev.step (f := fun k => (bournelaw11_framed.f k xs[i].f0 xs[i].f1 xs[i].f2 xs[i].f3 xs[i].f4).bind fun q => bournelaw11_ScanCut.l1 k t h xs (wrap64 (cnt (xs.take i) + (q.size : Int))) (wrap64 ((i : Int) + 1)) (S []) 0) (fun k => ?_) ?_
      · simp only [bournelaw11_ScanCut.l1]
        rw [if_pos (by omega), if_pos (by omega), rd_at xs i hi2, if_neg c]
      · refine Ev.bind hf ?_
        rw [S_size (fr_lt _)]
        refine Ev.congr (fun k => ?_) ih'
        rw [hw, hw2]
theorem cut_l0 (A P : S49) (d : Nat) : ∀ i : Nat, (fr A).length - i = d → i ≤ (fr A).length →
    Ev (fun k => bournelaw11_ScanCut.l0 k (S (fr A)) (i : Int) A.f0 A.f1 A.f2 A.f3 A.f4 P.f0 P.f1 P.f2 P.f3 P.f4 (S (if i < (fr A).length then (fr A).take i else [])) 0) true := by
  have hlt := fr_lt A
  have hsz : (S (fr A)).size = (fr A).length := S_size hlt
  have hle := fr_le A
  induction d with
  | zero =>
    intro i hd hi
    obtain rfl : i = (fr A).length := by omega
    rw [if_neg (Nat.lt_irrefl _)]
    have hf : Ev (fun k => bournelaw11_framed.f k P.f0 P.f1 P.f2 P.f3 P.f4) (S (fr P)) := framed_ev P.f0 P.f1 P.f2 P.f3 P.f4
    refine Ev.step (fun k => by simp only [bournelaw11_ScanCut.l0]; rw [if_neg (by omega)]) ?_
    refine Ev.bind hf ?_
    have hP := fr_lt P
    have hPl := fr_le P
    have hPs : (S (fr P)).size = (fr P).length := S_size hP
    by_cases c : fr P = []
    · refine Ev.congr (f := fun k => (scan_Scanner_Write.f k (S []) 0 (⟨#[]⟩ : ByteArray)).bind fun t => some ((t.1.length : Int) == 0)) (fun k => if_pos ((toList_S hP).2 c)) ?_
      have h := scan_write (S []) (⟨#[]⟩ : ByteArray) (by decide +kernel) (b := 0) (by decide) (by decide) (o' := []) (l' := []) (b' := 0) (by
        rw [L_S (l := []) (fun _ h => by cases h), show L (⟨#[]⟩ : ByteArray) = [] by decide +kernel]; exact Run.nil _ _)
      exact Ev.bind h (Ev.now _)
    · have hm : may5 P = true := by
        cases e : may5 P with
        | true => rfl
        | false => exact absurd (fr_pos.2 e) c
      have hp := enc5_len hm
      have hfl := fr_len hm
      have hw : wrap64 (((S (fr P)).size : Int) - 1) = (((fr P).length - 1 : Nat) : Int) := by rw [wrap64_id (by omega) (by omega)]; omega
      have hx : (S (fr P)).extract 0 ((fr P).length - 1) = S ((fr P).take ((fr P).length - 1)) := by rw [x_take, L_S hP]
      have htl : ((fr P).take ((fr P).length - 1)).length = (fr P).length - 1 := by rw [List.length_take]; omega
      have htlt := take_lt hP ((fr P).length - 1)
      have hcut := cut_fr P ((fr P).length - 1) (by omega)
      have w1 := scan_write (S []) (S ((fr P).take ((fr P).length - 1))) (by rw [S_size htlt, S_size (fun _ h => by cases h)]; simp; omega) (b := 0) (by decide) (by decide) (o' := []) (l' := (fr P).take ((fr P).length - 1)) (b' := 0) (by
        rw [L_S (l := []) (fun _ h => by cases h), L_S htlt, List.nil_append]
        exact Run.cut _ _ _ (fun z => by rw [z] at htl; simp at htl; omega) hcut rfl)
      obtain ⟨o', b', hr⟩ := run_true _ ((fr P).take ((fr P).length - 1)) [] 0 rfl
      have w2 := scan_close (S ((fr P).take ((fr P).length - 1))) (by rw [S_size htlt]; omega) (b := 0) (by decide) (by decide) (by rw [L_S htlt]; exact hr)
      obtain ⟨n1, n2, n3, n4, n5⟩ := run_count hr htlt (Int.le_refl _) (by omega) (fun x hx => by cases hx)
      have hled : led (tell o' b') := by
        apply led_tell
        generalize hg : (fr P).take ((fr P).length - 1) = l at *
        cases hr with
        | nil => simp at htl; omega
        | cut _ _ _ _ _ z => cases z
        | bad c t _ _ _ _ _ _ _ hr2 =>
          rw [List.length_cons] at htl
          refine run_led hr2 ?_ ?_ (.inr ⟨rfl, ?_⟩)
          · exact (bump_le 0 (by decide) (by decide)).1
          · rw [bump_eq (by decide)]; omega
          · rw [bump_eq (by decide)]; decide
        | op _ _ _ x n _ _ _ hh _ => rw [hit_cut hcut] at hh; cases hh
      have hok := ok_tell n4 n2
      have hcnt : cnt (tell o' b') = ((S (fr P)).size : Int) - 1 := by
        rw [cnt_tell, hPs]
        have e0 : cnt [] = 0 := rfl
        rw [List.length_nil] at n1
        omega
      have htn := tell_len o' b'
      have l1 := cut_l1 (S (fr P)) [] rfl (tell o' b') hok hled (by simp only [List.length_nil] at n5; omega) hcnt (by omega) _ 0 rfl (Nat.zero_le _)
      rw [List.take_zero] at l1
      refine Ev.congr (f := fun k => (scan_Scanner_Write.f k (S []) 0 (S ((fr P).take ((fr P).length - 1)))).bind fun t => (scan_Scanner_Close.f k t.2.1 t.2.2).bind fun u => bournelaw11_ScanCut.l1 k (S (fr P)) t.1 u.1 0 0 u.2.1 u.2.2) (fun k => ?_) ?_
      · rw [if_neg (fun z => c ((toList_S hP).1 z)), hw, if_pos (by omega), if_pos (by omega), Int.toNat_natCast, hx]
      · exact Ev.bind w1 (Ev.bind w2 l1)
  | succ d ih =>
    intro i hd hi
    have hi2 : i < (fr A).length := by omega
    rw [if_pos hi2]
    have hm : may5 A = true := by
      cases e : may5 A with
      | true => rfl
      | false => rw [fr_pos.2 e] at hi2; simp at hi2
    have hw : wrap64 ((i : Int) + 1) = ((i + 1 : Nat) : Int) := by rw [wrap64_id (by omega) (by omega)]; omega
    have hwl : wrap64 (((S (fr A)).size : Int) - 1) = (((fr A).length - 1 : Nat) : Int) := by rw [wrap64_id (by omega) (by omega)]; omega
    have ih' := ih (i + 1) (by omega) (by omega)
    have hx : L ((S (fr A)).extract i (i + 1)) = ((fr A).take (i + 1)).drop i := by rw [L_extract, L_S hlt]
    have hxs : ((S (fr A)).extract i (i + 1)).size ≤ 1 := by rw [← L_len, hx, List.length_drop, List.length_take]; omega
    have hti : ((fr A).take i).length = i := by rw [List.length_take]; omega
    have hjoin : (fr A).take i ++ ((fr A).take (i + 1)).drop i = (fr A).take (i + 1) := by
      have e : (fr A).take i = ((fr A).take (i + 1)).take i := by rw [List.take_take]; congr 1; omega
      rw [e, List.take_append_drop]
    have hS := S_size (take_lt hlt i)
    have hx0 : (S (fr A)).extract 0 (i + 1) = S ((fr A).take (i + 1)) := by rw [x_take, L_S hlt]
    have l0 : ∀ k, bournelaw11_ScanCut.l0 (k + 1) (S (fr A)) (i : Int) A.f0 A.f1 A.f2 A.f3 A.f4 P.f0 P.f1 P.f2 P.f3 P.f4 (S ((fr A).take i)) 0 = _ := fun k => by
      simp only [bournelaw11_ScanCut.l0]
      rw [if_pos (by omega), if_pos (by omega), hw, if_pos (by omega), if_pos (by omega), Int.toNat_natCast, Int.toNat_natCast, hwl]
    refine Ev.step l0 ?_
    by_cases c : i + 1 < (fr A).length
    · rw [if_pos c] at ih'
      have w1 := scan_write (S ((fr A).take i)) ((S (fr A)).extract i (i + 1)) (by omega) (b := 0) (by decide) (by decide) (o' := []) (l' := (fr A).take (i + 1)) (b' := 0) (by
        rw [L_S (take_lt hlt i), hx, hjoin]
        exact Run.cut _ _ _ (fun z => by have := congrArg List.length z; rw [List.length_take, List.length_nil] at this; omega) (cut_fr A (i + 1) c) rfl)
      refine Ev.bind w1 ?_
      refine Ev.congr (f := fun k => bournelaw11_ScanCut.j1 k (S (fr A)) (i : Int) [] false A.f0 A.f1 A.f2 A.f3 A.f4 P.f0 P.f1 P.f2 P.f3 P.f4 (S ((fr A).take (i + 1))) 0) (fun k => ?_) ?_
      · dsimp only
        rw [if_pos (by omega), if_pos (by rfl)]
        unfold scan_Scanner_Waits.f
        rw [Option.bind_some, if_pos (by omega), hx0, if_pos rfl]
        rfl
      · refine Ev.step (fun k => ?_) ih'
        simp only [bournelaw11_ScanCut.j1]
        rw [if_neg (by decide), hwl, if_neg (by omega), hw]
    · rw [if_neg c] at ih'
      have e2 : (fr A).take (i + 1) = fr A := List.take_of_length_le (by omega)
      have w1 := scan_write (S ((fr A).take i)) ((S (fr A)).extract i (i + 1)) (by omega) (b := 0) (by decide) (by decide) (o' := [A]) (l' := []) (b' := 0) (by
        rw [L_S (take_lt hlt i), hx, hjoin, e2]
        have := run_fr (last := false) hm (o := []) (b := 0) (r := []) (Run.nil _ _)
        rw [List.append_nil] at this
        exact this)
      refine Ev.bind w1 ?_
      refine Ev.congr (f := fun k => bournelaw11_ScanCut.j1 k (S (fr A)) (i : Int) [A] false A.f0 A.f1 A.f2 A.f3 A.f4 P.f0 P.f1 P.f2 P.f3 P.f4 (S []) 0) (fun k => ?_) ?_
      · dsimp only
        rw [if_neg (by omega)]
      · have hs := same_ev [A] (by simp)
        refine Ev.step (f := fun k => (bournelaw0_SameOps.f k [A] [A]).bind fun t => if t = true then bournelaw11_ScanCut.l0 k (S (fr A)) ((i + 1 : Nat) : Int) A.f0 A.f1 A.f2 A.f3 A.f4 P.f0 P.f1 P.f2 P.f3 P.f4 (S []) 0 else some false) (fun k => ?_) (Ev.bind hs (Ev.congr (fun k => if_pos rfl) ih'))
        simp only [bournelaw11_ScanCut.j1]
        rw [if_neg (by decide), hwl, if_pos (by omega), hw]
        refine congrArg _ (funext fun t => ?_)
        by_cases z : t = true
        · rw [if_pos z, if_pos z, waits_ev, Option.bind_some, if_pos S_nil_l]
        · rw [if_neg z, if_neg z]
theorem cut_ev (A P : S49) : Ev (fun k => bournelaw11_ScanCut.f k A.f0 A.f1 A.f2 A.f3 A.f4 P.f0 P.f1 P.f2 P.f3 P.f4) true := by
  have h := cut_l0 A P _ 0 rfl (Nat.zero_le _)
  have e : (if 0 < (fr A).length then (fr A).take 0 else []) = [] := by split <;> simp
  rw [e] at h
  have hf : Ev (fun k => bournelaw11_framed.f k A.f0 A.f1 A.f2 A.f3 A.f4) (S (fr A)) := framed_ev A.f0 A.f1 A.f2 A.f3 A.f4
  unfold bournelaw11_ScanCut.f
  refine Ev.congr (f := fun k => (bournelaw11_framed.f k A.f0 A.f1 A.f2 A.f3 A.f4).bind fun t => bournelaw11_ScanCut.l0 k t 0 A.f0 A.f1 A.f2 A.f3 A.f4 P.f0 P.f1 P.f2 P.f3 P.f4 (⟨#[]⟩ : ByteArray) 0) (fun k => rfl) (Ev.bind hf ?_)
  exact h

theorem scancut_walk (a0 a1 a2 a3 a4 b0 b1 b2 b3 b4 : Int) (w : World) {p q : Prop} (_ : p) (_ : q) :
    Calls Try.prog 8 #[.agg #[.int .i64 a0, .int .i64 a1, .int .i64 a2, .int .i64 a3, .int .i64 a4], .agg #[.int .i64 b0, .int .i64 b1, .int .i64 b2, .int .i64 b3, .int .i64 b4]] w fun e w' => e = .returned (.bool true) ∧ Below w.heap.size w w' := by
  obtain ⟨k, hk⟩ := (cut_ev ⟨a0, a1, a2, a3, a4⟩ ⟨b0, b1, b2, b3, b4⟩).rounds
  exact bournelaw11_ScanCut.calls k a0 a1 a2 a3 a4 b0 b1 b2 b3 b4 true w hk

end Go.Proofs.Ytmccgkbbgicglaa.ScanCutMath
