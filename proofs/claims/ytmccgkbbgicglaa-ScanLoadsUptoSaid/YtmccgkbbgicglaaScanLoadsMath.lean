/- The law ScanLoads answers true where its texts are together of at most 1048576 letters. -/
import Derived.Test.YtmccgkbbgicglaaScanLoadsW
namespace Go.Proofs.Ytmccgkbbgicglaa.ScanLoadsMath
open Go.RowKit Go.Proofs.Ytmccgkbbgicglaa.QScanAll Go.Proofs.Ytmccgkbbgicglaa.ScanPure Go.Proofs.Ytmccgkbbgicglaa.ScanAwakePure Go.Proofs.Ytmccgkbbgicglaa.ScanAwake Go.Proofs.Ytmccgkbbgicglaa.ScanLoadW Go.Proofs.Ytmccgkbbgicglaa.ScanLoadsW Go.Proofs.YtmccgkbbgicglaaW.PrintWords Go.Proofs.YtmccgkbbgicglaaW.PrintLast Go.Proofs.YtmccgkbbgicglaaW.PrintMore
set_option linter.unusedVariables false
set_option linter.unusedSimpArgs false

/-! ### scancut0 -/
def cntO (x : S49) : Int := if x.f0 = 3 then x.f4 else ((fr x).length : Int)
def cnt : List S49 → Int
  | [] => 0
  | x :: xs => cntO x + cnt xs
theorem cnt_app (a b : List S49) : cnt (a ++ b) = cnt a + cnt b := by
  induction a with
  | nil => simp [cnt]
  | cons x xs ih => rw [List.cons_append, cnt, ih, cnt, Int.add_assoc]
theorem cnt_tell (o : List S49) (b : Int) : cnt (tell o b) = cnt o + b := by
  unfold tell
  split
  · omega
  · rw [cnt_app]; simp [cnt, cntO]
theorem may5_kind {x : S49} (h : may5 x = true) : x.f0 ≠ 3 := by
  have := oMay_rng (show oMay x.f0 x.f1 x.f2 x.f3 x.f4 = true from h); omega
def okO (x : S49) : Prop := 0 ≤ cntO x
theorem okO_fr {x : S49} (h : may5 x = true) : okO x := by unfold okO cntO; rw [if_neg (may5_kind h)]; omega
theorem ok_tell {o : List S49} {b : Int} (h : ∀ x ∈ o, okO x) (hb : 0 ≤ b) : ∀ x ∈ tell o b, okO x := by
  intro x hx
  unfold tell at hx
  split at hx
  · exact h x hx
  · rcases List.mem_append.1 hx with hx | hx
    · exact h x hx
    · rw [List.mem_singleton.1 hx]; show 0 ≤ cntO _; unfold cntO; rw [if_pos rfl]; exact hb
theorem cnt_nn {o : List S49} (h : ∀ x ∈ o, okO x) : 0 ≤ cnt o := by
  induction o with
  | nil => exact Int.le_refl _
  | cons x xs ih =>
    have h1 : 0 ≤ cntO x := h x (List.mem_cons_self ..)
    have h2 := ih (fun y hy => h y (List.mem_cons_of_mem _ hy))
    rw [cnt]; omega
theorem run_count {last : Bool} {l : List Nat} {o : List S49} {b : Int} {o' : List S49} {l' : List Nat} {b' : Int} (h : Run last l o b o' l' b') :
    (∀ y ∈ l, y < 256) → 0 ≤ b → b + l.length ≤ 1073741823 → (∀ x ∈ o, okO x) → cnt o' + b' + l'.length = cnt o + b + l.length ∧ 0 ≤ b' ∧ b' ≤ 1073741823 ∧ (∀ x ∈ o', okO x) ∧ o'.length + l'.length ≤ o.length + l.length := by
  induction h with
  | nil o b => intro _ h0 h1 ho; exact ⟨by simp, h0, by simpa using h1, ho, by simp⟩
  | cut l o b _ _ _ => intro _ h0 h1 ho; exact ⟨rfl, h0, by omega, ho, Nat.le_refl _⟩
  | bad c t o b o' l' b' _ _ _ ih =>
    intro hb h0 h1 ho
    rw [List.length_cons] at h1
    have e := bump_eq (b := b) (by omega)
    obtain ⟨i1, i2, i3, i4, i5⟩ := ih (fun y hy => hb y (List.mem_cons_of_mem _ hy)) (by omega) (by omega) ho
    rw [List.length_cons]
    exact ⟨by omega, i2, i3, i4, by omega⟩
  | op l o b x n o' l' b' hh _ ih =>
    intro hb h0 h1 ho
    obtain ⟨hm, hf, hn⟩ := hit_inv hb hh
    have hl := hit_len hh
    have hd : (l.drop n).length = l.length - n := List.length_drop ..
    obtain ⟨i1, i2, i3, i4, i5⟩ := ih (fun y hy => hb y (List.mem_of_mem_drop hy)) (Int.le_refl _) (by omega) (fun y hy => by
      rcases List.mem_append.1 hy with hy | hy
      · exact ok_tell ho h0 y hy
      · rw [List.mem_singleton.1 hy]; exact okO_fr hm)
    rw [cnt_app, cnt_tell] at i1
    have e : cnt [x] = (n : Int) := by simp only [cnt, cntO]; rw [if_neg (may5_kind hm), hn]; omega
    have ht := tell_len o b
    rw [List.length_append, List.length_singleton] at i5
    exact ⟨by omega, i2, i3, i4, by omega⟩
theorem run_true (n : Nat) : ∀ (l : List Nat) (o : List S49) (b : Int), l.length = n → ∃ o' b', Run true l o b o' [] b' := by
  induction n using Nat.strongRecOn with
  | _ n ih =>
    intro l o b hl
    cases l with
    | nil => exact ⟨o, b, Run.nil o b⟩
    | cons c t =>
      cases e : hit (c :: t) with
      | none =>
        rw [List.length_cons] at hl
        obtain ⟨o', b', h⟩ := ih t.length (by omega) t o (bump b) rfl
        exact ⟨o', b', Run.bad c t o b o' [] b' (fun _ => rfl) e h⟩
      | some q =>
        obtain ⟨x, m⟩ := q
        have hm := hit_len e
        obtain ⟨o', b', h⟩ := ih ((c :: t).drop m).length (by rw [List.length_drop]; omega) _ (tell o b ++ [x]) 0 rfl
        exact ⟨o', b', Run.op (c :: t) o b x m o' [] b' e h⟩
def led (o : List S49) : Prop := ∃ x r, o = x :: r ∧ x.f0 = 3
theorem led_app {o : List S49} (h : led o) (r : List S49) : led (o ++ r) := by
  obtain ⟨x, t, rfl, hx⟩ := h
  exact ⟨x, t ++ r, by simp, hx⟩
theorem led_tell {o : List S49} {b : Int} (h : led o ∨ o = [] ∧ 1 ≤ b) : led (tell o b) := by
  unfold tell
  rcases h with h | ⟨rfl, hb⟩
  · split
    · exact h
    · exact led_app h _
  · rw [if_neg (by omega)]; exact ⟨_, [], rfl, rfl⟩
theorem run_led {last : Bool} {l : List Nat} {o : List S49} {b : Int} {o' : List S49} {l' : List Nat} {b' : Int} (h : Run last l o b o' l' b') :
    0 ≤ b → b + l.length ≤ 1073741823 → (led o ∨ o = [] ∧ 1 ≤ b) → led o' ∨ o' = [] ∧ 1 ≤ b' := by
  induction h with
  | nil o b => intro _ _ h; exact h
  | cut l o b _ _ _ => intro _ _ h; exact h
  | bad c t o b o' l' b' _ _ _ ih =>
    intro h0 h1 h
    rw [List.length_cons] at h1
    have e := bump_eq (b := b) (by omega)
    exact ih (by omega) (by omega) (h.imp id (fun z => ⟨z.1, by omega⟩))
  | op l o b x n o' l' b' hh _ ih =>
    intro h0 h1 h
    have hd : (l.drop n).length ≤ l.length := by rw [List.length_drop]; omega
    exact ih (Int.le_refl _) (by omega) (.inl (led_app (led_tell h) _))
theorem rd_at (l : List S49) (i : Nat) (h : i < l.length) : rd_T49 l (i : Int) = l[i] := by
  unfold rd_T49
  rw [Int.toNat_natCast, List.getD_eq_getElem?_getD, List.getElem?_eq_getElem h]; rfl
theorem cnt_take (l : List S49) (i : Nat) (h : i < l.length) : cnt (l.take (i + 1)) = cnt (l.take i) + cntO l[i] := by
  rw [List.take_succ_eq_append_getElem h, cnt_app]; simp [cnt]
theorem toList_S {l : List Nat} (h : ∀ y ∈ l, y < 256) : ((S l).toList = ([] : List UInt8)) ↔ l = [] := by
  rw [toList_lit, L_S h]; rfl
theorem S_nil_l : (S []).toList = ([] : List UInt8) := (toList_S (fun _ h => by cases h)).2 rfl
theorem waits_ev (s : ByteArray) (b : Int) : scan_Scanner_Waits.f s b = some (s, s, b) := rfl
theorem bad_ev (s : ByteArray) (b : Int) : scan_Scanner_Bad.f s b = some (b, s, b) := rfl
theorem take_lt {l : List Nat} (h : ∀ y ∈ l, y < 256) (n : Nat) : ∀ y ∈ l.take n, y < 256 := fun y hy => h y (List.mem_of_mem_take hy)

/-! ### scanrun -/
theorem run_facts {last : Bool} {l : List Nat} {o : List S49} {b : Int} {o' : List S49} {l' : List Nat} {b' : Int} (h : Run last l o b o' l' b') :
    (∀ y ∈ l, y < 256) → 0 ≤ b → b ≤ 1073741823 → 0 ≤ b' ∧ b' ≤ 1073741823 ∧ o'.length + l'.length ≤ o.length + l.length ∧ (∀ y ∈ l', y < 256) ∧ l'.length ≤ l.length := by
  induction h with
  | nil o b => intro hb h0 h1; exact ⟨h0, h1, Nat.le_refl _, hb, Nat.le_refl _⟩
  | cut l o b _ _ _ => intro hb h0 h1; exact ⟨h0, h1, Nat.le_refl _, hb, Nat.le_refl _⟩
  | bad c t o b o' l' b' _ _ _ ih =>
    intro hb h0 h1
    have e := bump_le b h0 h1
    obtain ⟨i1, i2, i3, i4, i5⟩ := ih (fun y hy => hb y (List.mem_cons_of_mem _ hy)) e.1 e.2
    rw [List.length_cons]
    exact ⟨i1, i2, by omega, i4, by omega⟩
  | op l o b x n o' l' b' hh _ ih =>
    intro hb h0 h1
    have hl := hit_len hh
    have hd : (l.drop n).length = l.length - n := List.length_drop ..
    obtain ⟨i1, i2, i3, i4, i5⟩ := ih (fun y hy => hb y (List.mem_of_mem_drop hy)) (Int.le_refl _) (by decide)
    have ht := tell_len o b
    rw [List.length_append, List.length_singleton] at i3
    exact ⟨i1, i2, by omega, i4, by omega⟩
theorem run_cutend {last : Bool} {l : List Nat} {o : List S49} {b : Int} {o' : List S49} {l' : List Nat} {b' : Int} (h : Run last l o b o' l' b') : l' = [] ∨ isCut l' = true := by
  induction h with
  | nil o b => exact .inl rfl
  | cut l o b _ hc _ => exact .inr hc
  | bad c t o b o' l' b' _ _ _ ih => exact ih
  | op l o b x n o' l' b' hh _ ih => exact ih
theorem run_ex (last : Bool) (n : Nat) : ∀ (l : List Nat) (o : List S49) (b : Int), l.length = n → ∃ o' l' b', Run last l o b o' l' b' := by
  induction n using Nat.strongRecOn with
  | _ n ih =>
    intro l o b hl
    cases l with
    | nil => exact ⟨o, [], b, Run.nil o b⟩
    | cons c t =>
      rw [List.length_cons] at hl
      by_cases hc : isCut (c :: t) = true ∧ last = false
      · exact ⟨o, c :: t, b, Run.cut _ o b (by simp) hc.1 hc.2⟩
      · have hc2 : isCut (c :: t) = true → last = true := fun z => by
          cases last with
          | true => rfl
          | false => exact absurd ⟨z, rfl⟩ hc
        cases e : hit (c :: t) with
        | none =>
          obtain ⟨o', l', b', h⟩ := ih t.length (by omega) t o (bump b) rfl
          exact ⟨o', l', b', Run.bad c t o b o' l' b' hc2 e h⟩
        | some q =>
          obtain ⟨x, m⟩ := q
          have hm := hit_len e
          obtain ⟨o', l', b', h⟩ := ih ((c :: t).drop m).length (by rw [List.length_drop, List.length_cons]; omega) _ (tell o b ++ [x]) 0 rfl
          exact ⟨o', l', b', Run.op (c :: t) o b x m o' l' b' e h⟩
/-- What a writing answers: some operations, what waits. -/
theorem write_ex (w s : ByteArray) (hs : w.size + s.size ≤ 100000000) {b : Int} (h0 : 0 ≤ b) (h1 : b ≤ 1073741823) :
    ∃ (o' : List S49) (l' : List Nat) (b' : Int), Run false (L w ++ L s) [] b o' l' b' ∧ Ev (fun k => scan_Scanner_Write.f k w b s) (o', S l', b') ∧ 0 ≤ b' ∧ b' ≤ 1073741823 ∧ o'.length ≤ 100000000 ∧ (∀ y ∈ l', y < 256) ∧ (S l').size ≤ w.size + s.size ∧ (l' = [] ∨ isCut l' = true) := by
  obtain ⟨o', l', b', h⟩ := run_ex false _ (L w ++ L s) [] b rfl
  have hlt : ∀ y ∈ L w ++ L s, y < 256 := fun y hy => by
    rcases List.mem_append.1 hy with hy | hy
    · exact L_lt w y hy
    · exact L_lt s y hy
  obtain ⟨f1, f2, f3, f4, f5⟩ := run_facts h hlt h0 h1
  have hl : (L w ++ L s).length = w.size + s.size := by rw [List.length_append, L_len, L_len]
  have hz := S_size f4
  rw [List.length_nil] at f3
  exact ⟨o', l', b', h, scan_write w s (by omega) h0 h1 h, f1, f2, by omega, f4, by omega, run_cutend h⟩
theorem close_ex (w : ByteArray) (hs : w.size ≤ 100000000) {b : Int} (h0 : 0 ≤ b) (h1 : b ≤ 1073741823) :
    ∃ (o' : List S49) (b' : Int), Run true (L w) [] b o' [] b' ∧ Ev (fun k => scan_Scanner_Close.f k w b) (tell o' b', S [], 0) ∧ (tell o' b').length ≤ 100000001 := by
  obtain ⟨o', b', h⟩ := run_true _ (L w) [] b rfl
  obtain ⟨f1, f2, f3, f4, f5⟩ := run_facts h (L_lt w) h0 h1
  have hl := L_len w
  have ht := tell_len o' b'
  rw [List.length_nil, List.length_nil] at f3
  exact ⟨o', b', h, scan_close w (by omega) h0 h1 h, by omega⟩

theorem scanloads_walk (s : ByteArray) (cut : Int) (rest : ByteArray) (w : World) (hs : s.size ≤ 1048576) {q : Prop} (_ : q) (hr : rest.size ≤ 1048576) :
    Calls Try.prog 6 #[.string s, .int .i64 cut, .string rest] w fun e w' => e = .returned (.bool true) ∧ Below w.heap.size w w' := by
  have hw1 : wrap64 ((s.size : Int) + 1) = (s.size : Int) + 1 := wrap64_id (by omega) (by omega)
  have hw2 : IntKind.u64.wrap (wrap64 ((s.size : Int) + 1)) = (s.size : Int) + 1 := by rw [hw1, IntKind.wrap_u64]; omega
  have hz : (IntKind.u64.wrap (wrap64 ((s.size : Int) + 1)) = 0) = False := eq_false (by rw [hw2]; omega)
  have hu : 0 ≤ IntKind.u64.wrap cut := by rw [IntKind.wrap_u64]; omega
  have ht : (IntKind.u64.wrap cut).tmod (IntKind.u64.wrap (wrap64 ((s.size : Int) + 1))) = (IntKind.u64.wrap cut) % ((s.size : Int) + 1) := by rw [hw2, Int.tmod_eq_emod_of_nonneg hu]
  have hr1 : 0 ≤ (IntKind.u64.wrap cut) % ((s.size : Int) + 1) := Int.emod_nonneg _ (by omega)
  have hr2 : (IntKind.u64.wrap cut) % ((s.size : Int) + 1) < (s.size : Int) + 1 := Int.emod_lt_of_pos _ (by omega)
  have hm : wrap64 ((IntKind.u64.wrap cut).tmod (IntKind.u64.wrap (wrap64 ((s.size : Int) + 1)))) = ((((IntKind.u64.wrap cut) % ((s.size : Int) + 1)).toNat : Nat) : Int) := by
    rw [ht, wrap64_id (by omega) (by omega), Int.toNat_of_nonneg hr1]
  have hml : ((IntKind.u64.wrap cut) % ((s.size : Int) + 1)).toNat ≤ s.size := by omega
  clear hw1 hw2 ht
  generalize ((IntKind.u64.wrap cut) % ((s.size : Int) + 1)).toNat = m at hm hml
  clear hr1 hr2 hu
  have x1 : (s.extract 0 m).size ≤ s.size := by rw [ByteArray.size_extract]; omega
  have x2 : (s.extract m s.size).size ≤ s.size := by rw [ByteArray.size_extract]; omega
  have x0 : (⟨#[]⟩ : ByteArray).size = 0 := rfl
  obtain ⟨o1, l1, b1, r1, ⟨k1, h1⟩, p1, q1, n1, t1, z1, c1⟩ := write_ex (⟨#[]⟩ : ByteArray) (s.extract 0 m) (by omega) (b := 0) (by decide) (by decide)
  have hL1 : L (S l1) = l1 := L_S t1
  have hg : ∃ x p e_, (∃ k2, ∀ k, k2 ≤ k → frame_Get.f k (S l1) 0 = some (x, p, e_)) ∧ ((S l1).toList = ([] : List UInt8) ∨ e_ = 801) := by
    have g := get_ev' (S l1) 0 (Nat.zero_le _) (by omega)
    rw [List.drop_zero, hL1] at g
    obtain ⟨k2, h2⟩ := g
    refine ⟨_, _, _, ⟨k2, h2⟩, ?_⟩
    rcases c1 with c | c
    · exact .inl ((toList_S t1).2 c)
    · exact .inr (of_decide_eq_true c)
  obtain ⟨x, p, e_, ⟨k2, h2⟩, he⟩ := hg
  obtain ⟨o2, l2, b2, r2, ⟨k3, h3⟩, p2, q2, n2, t2, z2, c2⟩ := write_ex (S l1) (s.extract m s.size) (by omega) p1 q1
  obtain ⟨k4, h4⟩ := same_ev o2 (by omega)
  obtain ⟨o3, l3, b3, r3, ⟨k5, h5⟩, p3, q3, n3, t3, z3, c3⟩ := write_ex (S l2) rest (by omega) p2 q2
  obtain ⟨k6, h6⟩ := same_ev o3 (by omega)
  obtain ⟨o4, b4, r4, ⟨k7, h7⟩, n4⟩ := close_ex (S l3) (by omega) p3 q3
  obtain ⟨k8, h8⟩ := same_ev (tell o4 b4) (by omega)
  exact loads_calls (k1 + k2 + k3 + k4 + k5 + k6 + k7 + k8) s rest (S l1) (S l2) (S l3) (S []) x cut b1 b2 b3 0 p e_ m o1 o2 o3 (tell o4 b4) w ⟨awake_all⟩ hz hm ⟨hml⟩ ⟨h1 _ (by omega)⟩ ⟨h2 _ (by omega)⟩ ⟨p1, q1, he⟩ ⟨h3 _ (by omega)⟩ ⟨h4 _ (by omega)⟩ ⟨h5 _ (by omega)⟩ ⟨h6 _ (by omega)⟩ ⟨h7 _ (by omega)⟩ ⟨h8 _ (by omega)⟩

end Go.Proofs.Ytmccgkbbgicglaa.ScanLoadsMath
