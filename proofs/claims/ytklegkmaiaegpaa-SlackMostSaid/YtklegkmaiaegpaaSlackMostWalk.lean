/- The law SlackMost of folder 16 answers true at any lateness and times: its walk. No condition. -/
import Derived.Test.YtklegkmaiaegpaaSlackAwake
import Derived.OwnWalk
import Derived.Laws.OwnMore
namespace Go.Proofs.Ytklegkmaiaegpaa.SlackMostW
open Go.RowKit Go.Proofs.Ytklegkmaiaegpaa.SlackW Go.Proofs.YtklegkmaiaegpaaW.PrintWords Go.Proofs.YtklegkmaiaegpaaW.PrintLast Go.Proofs.YtklegkmaiaegpaaW.PrintMore
set_option linter.unusedVariables false
set_option linter.unusedSimpArgs false

/-! ### base -/
theorem wf_i64 {a : Int} (h : (Lit.int .i64 a).wf = true) : -9223372036854775808 ≤ a ∧ a ≤ 9223372036854775807 := by
  simpa [Lit.wf, IntKind.min, IntKind.max, IntKind.signed, IntKind.bits] using h
theorem wrap64_id {n : Int} (h1 : -9223372036854775808 ≤ n) (h2 : n ≤ 9223372036854775807) : wrap64 n = n := by
  unfold wrap64; omega
theorem toNat_ofInt64 (a : Int) : ((BitVec.ofInt 64 a).toNat : Int) = a % 18446744073709551616 := by
  rw [BitVec.toNat_ofInt]
  have h : (0 : Int) ≤ a % ((2 ^ 64 : Nat) : Int) := Int.emod_nonneg _ (by decide)
  rw [Int.toNat_of_nonneg h]; rfl
theorem wrap_i64_nat (n : Nat) (h : n < 9223372036854775808) : IntKind.i64.wrap (n : Int) = (n : Int) := by
  rw [IntKind.wrap_i64]; omega
theorem and_mask (a : Int) (j : Nat) (hj : j ≤ 63) : Go.bits .and .i64 a (2 ^ j - 1) = a % 2 ^ j := by
  have hp : 2 ^ j ≤ 2 ^ 63 := Nat.pow_le_pow_right (by decide) hj
  have hpos : 0 < 2 ^ j := Nat.two_pow_pos j
  have hc : ((2 : Int) ^ j - 1) = ((2 ^ j - 1 : Nat) : Int) := by
    rw [Int.natCast_sub hpos]; simp
  have hd : (2 : Int) ^ j ∣ 18446744073709551616 := ⟨2 ^ (64 - j), by rw [← Int.pow_add]; rw [show j + (64 - j) = 64 by omega]; rfl⟩
  show IntKind.i64.wrap (((BitVec.ofInt 64 a &&& BitVec.ofInt 64 (2 ^ j - 1)).toNat : Nat) : Int) = _
  rw [BitVec.toNat_and, hc, BitVec.ofInt_natCast, BitVec.toNat_ofNat, Nat.mod_eq_of_lt (Nat.lt_of_lt_of_le (Nat.sub_lt hpos (by decide)) (Nat.le_trans hp (by decide))), Nat.and_two_pow_sub_one_eq_mod]
  rw [wrap_i64_nat _ (Nat.lt_of_lt_of_le (Nat.mod_lt _ hpos) hp), Int.natCast_emod, toNat_ofInt64, Int.natCast_pow]
  exact Int.emod_emod_of_dvd a hd
theorem and_m (a : Int) (j : Nat) (m p : Int) (hj : j ≤ 63) (hp : (2 : Int) ^ j = p) (hm : m = p - 1) : Go.bits .and .i64 a m = a % p := by
  subst hm; rw [← hp]; exact and_mask a j hj

/-- The greatest lag, one seen time after the other. -/
def lag (t late : Int) (a : Int) (ys : List Int) : Int := ys.foldl (fun a y => max a (min (y - t) late)) a
theorem lag_snoc (t late a : Int) (ys : List Int) (y : Int) : lag t late a (ys ++ [y]) = max (lag t late a ys) (min (y - t) late) := by unfold lag; simp
theorem lag_le (t late : Int) (ys : List Int) : ∀ (a M : Int), a ≤ M → (∀ y ∈ ys, min (y - t) late ≤ M) → lag t late a ys ≤ M := by
  induction ys with
  | nil => intro a M h _; exact h
  | cons y ys ih =>
    intro a M h hy
    have h2 := hy y (by simp)
    exact ih _ M (by show max a (min (y - t) late) ≤ M; omega) (fun z hz => hy z (by simp [hz]))
theorem lag_ge (t late : Int) (ys : List Int) : ∀ (a : Int), a ≤ lag t late a ys ∧ ∀ y ∈ ys, min (y - t) late ≤ lag t late a ys := by
  induction ys with
  | nil => intro a; exact ⟨Int.le_refl _, fun y hy => by simp at hy⟩
  | cons y ys ih =>
    intro a
    obtain ⟨h1, h2⟩ := ih (max a (min (y - t) late))
    have h1' : max a (min (y - t) late) ≤ lag t late a (y :: ys) := h1
    refine ⟨by omega, fun z hz => ?_⟩
    rcases List.mem_cons.1 hz with rfl | hz
    · omega
    · exact h2 z hz
theorem lag_max (t late a high : Int) (ys : List Int) (h1 : ∀ y ∈ ys, y ≤ high) (h2 : high ∈ ys) : lag t late a ys = max a (min (high - t) late) := by
  obtain ⟨g1, g2⟩ := lag_ge t late ys a
  have g3 := g2 high h2
  have g4 := lag_le t late ys a (max a (min (high - t) late)) (by omega) (fun y hy => by have := h1 y hy; omega)
  omega
theorem lag_bounds (t late a : Int) (ys : List Int) (h0 : 0 ≤ a) (h1 : a ≤ late) : 0 ≤ lag t late a ys ∧ lag t late a ys ≤ late :=
  ⟨by have := (lag_ge t late ys a).1; omega, lag_le t late ys a late h1 (fun y _ => by omega)⟩
/-- What a slack tells of the times that were seen. -/
def Known (ys : List Int) (any : Bool) (high k late : Int) : Prop := (any = false ∧ ys = [] ∧ k = 0) ∨ (any = true ∧ high ∈ ys ∧ ∀ y ∈ ys, y ≤ high)
theorem le_app {ys : List Int} {h t : Int} (h1 : ∀ y ∈ ys, y ≤ h) (h2 : t ≤ h) : ∀ y ∈ ys ++ [t], y ≤ h := by
  intro y hy
  rcases List.mem_append.1 hy with hy | hy
  · exact h1 y hy
  · simp at hy; omega
theorem app_in {ys : List Int} {t : Int} (h1 : ∀ y ∈ ys, -500 ≤ y ∧ y ≤ 523) (h2 : -500 ≤ t) (h3 : t ≤ 523) : ∀ y ∈ ys ++ [t], -500 ≤ y ∧ y ≤ 523 := by
  intro y hy
  rcases List.mem_append.1 hy with hy | hy
  · exact h1 y hy
  · simp at hy; omega
theorem see_any (late : Int) (any : Bool) (high k t : Int) (ys : List Int) (hl0 : 0 ≤ late) (hl1 : late ≤ 255) (hk0 : 0 ≤ k) (hk1 : k ≤ late) (hh0 : -500 ≤ high) (hh1 : high ≤ 523) (ht0 : -500 ≤ t) (ht1 : t ≤ 523)
    (hK : Known ys any high k late) : ∃ (any' : Bool) (high' : Int), -500 ≤ high' ∧ high' ≤ 523 ∧ Known (ys ++ [t]) any' high' (lag t late k ys) late ∧
      (∀ (g : Nat) (w : World), w.heap[g]? = some (SB 43 late any high k) → Calls Try.prog 12 #[.pointer (some ⟨g, 0, none⟩), .int .i64 t] w fun e w' => e = .returned (.int .i64 0) ∧ Turned g (SB 43 late any' high' (lag t late k ys)) w w') := by
  rcases hK with ⟨rfl, rfl, rfl⟩ | ⟨rfl, h1, h2⟩
  · refine ⟨true, t, ht0, ht1, .inr ⟨rfl, by simp, by simp⟩, fun g w hg => (see_first g late high 0 t (by omega) (by omega) hl0 (by omega) (by omega) (by omega) w ⟨hg⟩).mono fun _ _ h => h⟩
  · have hm := lag_max t late k high ys h2 h1
    by_cases c : high < t
    · have e : lag t late k ys = k := by rw [hm]; omega
      rw [e]
      exact ⟨true, t, ht0, ht1, .inr ⟨rfl, by simp, le_app (fun y hy => by have := h2 y hy; omega) (Int.le_refl _)⟩, fun g w hg => (see_up g late high k t (by omega) (by omega) c hl0 (by omega) hk0 (by omega) w ⟨hg⟩).mono fun _ _ h => h⟩
    · rw [hm]
      exact ⟨true, high, hh0, hh1, .inr ⟨rfl, by simp [h1], le_app h2 (by omega)⟩, fun g w hg => (see_stay g late high k t (by omega) (by omega) (by omega) (by omega) hl0 (by omega) hk0 (by omega) _ ⟨rfl⟩ w ⟨hg⟩).mono fun _ _ h => h⟩
theorem own_turned {w w' : World} {g : Nat} {o : Obj} {base : Nat} {e : TypeId} {size n : Nat} {v : Value} {xs : List Value} (h : w.ownsRow base e size v n xs) (ht : Turned g o w w') (hg : g < base) : w'.ownsRow base e size v n xs := by
  obtain ⟨h1, h2⟩ := h
  refine ⟨h1, ?_⟩
  rcases h2 with h2 | ⟨b, cap, cur, hv, hb, hh, r⟩
  · exact .inl h2
  · exact .inr ⟨b, cap, cur, hv, hb, (ht.far b (by omega)).trans hh, r⟩
theorem row_form {w : World} {base : Nat} {v : Value} {ys : List Int} (h : w.ownsRow base 3 1 v ys.length (ys.map (Value.int .i64))) :
    (v = .slice none 0 0 ∧ ys = []) ∨ ∃ b cap, v = .slice (some ⟨b, 0, none⟩) ys.length cap ∧ ∀ j, j < ys.length → w.cell? ⟨b, j, none⟩ = some (.int .i64 (ys.getD j 0)) := by
  have h' := h
  obtain ⟨h1, h2⟩ := h
  rcases h2 with ⟨hv, hn⟩ | ⟨b, cap, cur, hv, hb, hh, r⟩
  · exact .inl ⟨hv, List.length_eq_zero_iff.1 hn⟩
  · subst hv
    refine .inr ⟨b, cap, rfl, fun j hj => ?_⟩
    rw [h'.cellAt j (by omega)]
    simp [hj]
theorem info3 : (Try.prog.info? 3).map (fun i => (i.zero, i.size, i.bytes)) = some (some (.int .i64 0), 1, 8) := by kernel_rfl
attribute [local go_sem] max2_int min2_int max_two min_two max_three min_three max_four min_four
set_option maxHeartbeats 1000000 in
theorem most_calls (late kk : Int) (A : Option Addr) (c : Nat) (l : List Int) (hk : Go.bits .and .i64 late 255 = kk) (h0 : 0 ≤ kk) (h1 : kk ≤ 255) (w : World) (hl : Aside0 (ReadsInt w .i64 A l.length l)) (hm : l.length ≤ 9223372036854775807)
    (hand : Aside0 (∀ a : Int, ∃ t : Int, Go.bits .and .i64 a 1023 = t ∧ 0 ≤ t ∧ t ≤ 1023)) :
    Calls Try.prog 4 #[.int .i64 late, .slice A l.length c] w fun e w' => e = .returned (.bool true) ∧ Below w.heap.size w w' := by
  obtain ⟨i0, hi, hz0, hz1, hz2⟩ := info_parts info3
  go_enter Try.func4, Try.ntmps4
  go_wp2_with fail
  refine (awake_calls _).mono ?_
  rintro e w0 ⟨rfl, hb0⟩
  have HB0 := Aside0.mk hb0
  clear hb0
  go_wp2_with fail
  refine (new_yes kk h0 (by omega) _).mono ?_
  rintro e w1 ⟨rfl, hw1⟩
  have hG : Aside0 (w1.heap.size = w0.heap.size + 1) := ⟨by rw [← hw1]; simp⟩
  have hg : Aside0 (w1.heap[w0.heap.size]? = some (SB 43 kk false 0 0)) := ⟨by rw [← hw1]; show (w0.heap.push _)[w0.heap.size]? = _; simp⟩
  have HS0 : Aside0 (w.heap.size ≤ w0.heap.size) := ⟨HB0.out.size⟩
  have HB : Aside0 (Below w.heap.size w w1) := ⟨by rw [← hw1]; exact below_alloc HB0.out _⟩
  clear hw1
  generalize w0.heap.size = G at *
  clear HB0
  go_wp2_with (go_at_call 10; (with_reducible refine (num_calls _ _).mono ?_); rintro e w' ⟨rfl, rfl⟩)
  go_loopw [8, 9, 10] (fun want v i wr => ∃ (ys : List Int) (any : Bool) (high k : Int), ys.length ≤ 30 ∧ ys.length ≤ l.length ∧ want = .int .i64 k ∧ i = .int .i64 ys.length ∧ (∀ y ∈ ys, -500 ≤ y ∧ y ≤ 523) ∧ 0 ≤ k ∧ k ≤ kk ∧ -500 ≤ high ∧ high ≤ 523 ∧ Aside0 (Known ys any high k kk) ∧ Aside0 (wr.ownsRow (G + 1) 3 1 v ys.length (ys.map (Value.int .i64))) ∧ Aside0 (wr.heap[G]? = some (SB 43 kk any high k)) ∧ Aside0 (G < wr.heap.size) ∧ Aside0 (Below w.heap.size w wr)) (fun _ _ i _ => l.length - (intOf i).toNat)
  case atStart => exact ⟨[], false, 0, 0, by simp, by simp, rfl, rfl, by simp, by omega, by omega, by omega, by omega, ⟨.inl ⟨rfl, rfl, rfl⟩⟩, ⟨⟨rfl, .inl ⟨rfl, rfl⟩⟩⟩, hg, ⟨by rw [hG.out]; omega⟩, HB⟩
  case round =>
    clear hg HB hG
    obtain ⟨ys, any, high, k, hy30, hyl, rfl, rfl, hyb, b1, b2, b3, b4, hK, hown, hg, hGs, HB⟩ := hrel
    replace hyb := Aside0.mk hyb
    by_cases hlt : ys.length < l.length
    · by_cases h60 : ys.length < 30
      · obtain ⟨ad, had, hcell⟩ := hl.out.2.2 (by omega)
        replace hcell := pw_cell_below HB.out (hcell ys.length hlt)
        generalize l.getD ys.length 0 = a at *
        obtain ⟨t, ht, t0, t1⟩ := hand.out a
        subst had
        obtain ⟨any', high', q3, q4, hK', C1⟩ := see_any kk any high k (t - 500) ys h0 h1 b1 b2 b3 b4 (by omega) (by omega) hK.out
        replace hK' := Aside0.mk hK'
        have hlb := lag_bounds (t - 500) kk k ys b1 b2
        replace C1 := Aside0.mk C1
        go_wp2_with fail
        refine (C1.out _ _ hg.out).mono ?_
        rintro e w3 ⟨rfl, HT⟩
        replace hg := Aside0.mk HT.at_
        replace hGs := Aside0.mk (show G < w3.heap.size by rw [HT.size]; exact hGs.out)
        replace hown := Aside0.mk (own_turned hown.out HT (by omega))
        replace HB := Aside0.mk (HB.out.trans (HT.below HS0.out))
        clear HT C1 hcell ht
        have hcases := row_form hown.out
        rcases hcases with ⟨rfl, he⟩ | ⟨b, cap, rfl, hcl⟩
        · have hn : Aside0 (ys.length = 0) := ⟨by rw [he]; rfl⟩
          clear he
          have hlag : ∀ j, j < ys.length → Aside0 (lag (t - 500) kk k (ys.take (j + 1)) = max (lag (t - 500) kk k (ys.take j)) (min (ys.getD j 0 - (t - 500)) kk)) := fun j hj => ⟨by
            rw [List.take_succ_eq_append_getElem hj, lag_snoc]; simp [hj]⟩
          replace hlag := Aside0.mk hlag
          have hall : Aside0 (lag (t - 500) kk k (ys.take ys.length) = lag (t - 500) kk k ys) := ⟨by rw [List.take_length]⟩
          have htb : Aside0 (∀ j, 0 ≤ lag (t - 500) kk k (ys.take j) ∧ lag (t - 500) kk k (ys.take j) ≤ kk) := ⟨fun j => lag_bounds (t - 500) kk k (ys.take j) b1 b2⟩
          go_wp2_with fail
          go_loop [8, 13] (fun want jv => ∃ j : Nat, j ≤ ys.length ∧ jv = .int .i64 j ∧ want = .int .i64 (lag (t - 500) kk k (ys.take j))) (fun _ jv => ys.length - (intOf jv).toNat)
          case atStart => exact ⟨0, by omega, rfl, rfl⟩
          case round =>
            obtain ⟨j, hj, rfl, rfl⟩ := hrel
            by_cases hjl : j < ys.length
            · exact absurd hjl (by have := hn.out; omega)
            · obtain rfl : j = ys.length := by omega
              rw [hall.out]
              clear hlag hall htb
              generalize lag (t - 500) kk k ys = kl at *
              go_wp2_with (first
                | (at_builtin; refine wpList_append_own _ rfl _ _ 22 rfl (G + 1) 3 i0 (.int .i64 0) 1 8 Try.underlying22 hi hz0 hz1 hz2 rfl (by decide) _ _ _ rfl (hown.out.alloc _) ⟨w3.heap.size, 0, none⟩ 1 1 [.int .i64 (t - 500)] rfl rfl ?c1 ?c2 ?c3 ?c4 ?c5 ?_)
                | (go_at_call 10; (with_reducible refine (num_calls _ _).mono ?_); rintro e w' ⟨rfl, rfl⟩))
              case c2 => rfl
              case c3 => unfold maxLen; omega
              case c4 => omega
              case c5 => have := hGs.out; first | omega | (simp; omega)
              intro v' w4 hown4 hgrow _
              have hne : ∀ i, i < G + 1 → some i ≠ (.slice none 0 0 : Value).ownBlock := fun i hi he => by have := (hown.out.lt i he.symm).1; omega
              have hg4 : Aside0 (w4.heap[G]? = some (SB 43 kk any' high' kl)) := ⟨(hgrow.block G (Nat.lt_of_lt_of_le hGs.out (below_alloc (Below.refl _ w3) _).size) (hne G (by omega))).trans (((below_alloc (Below.refl _ w3) _).block G hGs.out).trans hg.out)⟩
              have hGs4 : Aside0 (G < w4.heap.size) := ⟨Nat.lt_of_lt_of_le hGs.out (Nat.le_trans (below_alloc (Below.refl _ w3) _).size hgrow.size)⟩
              have HB4 : Aside0 (Below w.heap.size w w4) := ⟨(below_alloc HB.out _).trans ⟨hgrow.os, hgrow.tape, hgrow.output, hgrow.size, fun i hi => hgrow.block i (Nat.lt_of_lt_of_le hi (Nat.le_trans HB.out.size (below_alloc (Below.refl _ w3) _).size)) (hne i (by have := HS0.out; omega))⟩⟩
              have hown5 : Aside0 (w4.ownsRow (G + 1) 3 1 v' (ys ++ [t - 500]).length ((ys ++ [t - 500]).map (Value.int .i64))) := ⟨by simpa using hown4⟩
              have hyb5 : Aside0 (∀ y ∈ ys ++ [t - 500], -500 ≤ y ∧ y ≤ 523) := ⟨app_in hyb.out (by omega) (by omega)⟩
              clear hown4 hgrow hne
              go_wp2_with (first
                | (go_at_call 10; (with_reducible refine (num_calls _ _).mono ?_); rintro e w' ⟨rfl, rfl⟩)
                | (go_at_call 14; (with_reducible refine (k_calls G kk any' high' kl _ hg4.out).mono ?_); rintro e w' ⟨rfl, rfl⟩))
              go_roundw
              case rel => exact ⟨ys ++ [t - 500], any', high', kl, by simp; omega, by simp; omega, rfl, by simp, hyb5.out, hlb.1, hlb.2, q3, q4, hK', hown5, hg4, hGs4, HB4⟩
              case measure => simp [intOf]; omega
        · replace hcl := Aside0.mk hcl
          have hlag : ∀ j, j < ys.length → Aside0 (lag (t - 500) kk k (ys.take (j + 1)) = max (lag (t - 500) kk k (ys.take j)) (min (ys.getD j 0 - (t - 500)) kk)) := fun j hj => ⟨by
            rw [List.take_succ_eq_append_getElem hj, lag_snoc]; simp [hj]⟩
          replace hlag := Aside0.mk hlag
          have hall : Aside0 (lag (t - 500) kk k (ys.take ys.length) = lag (t - 500) kk k ys) := ⟨by rw [List.take_length]⟩
          have htb : Aside0 (∀ j, 0 ≤ lag (t - 500) kk k (ys.take j) ∧ lag (t - 500) kk k (ys.take j) ≤ kk) := ⟨fun j => lag_bounds (t - 500) kk k (ys.take j) b1 b2⟩
          go_wp2_with fail
          go_loop [8, 13] (fun want jv => ∃ j : Nat, j ≤ ys.length ∧ jv = .int .i64 j ∧ want = .int .i64 (lag (t - 500) kk k (ys.take j))) (fun _ jv => ys.length - (intOf jv).toNat)
          case atStart => exact ⟨0, by omega, rfl, rfl⟩
          case round =>
            obtain ⟨j, hj, rfl, rfl⟩ := hrel
            by_cases hjl : j < ys.length
            · have hcj := hcl.out j hjl
              have hs := hlag.out j hjl
              have hb1 := htb.out j
              have hby := hyb.out (ys.getD j 0) (by rw [List.getD_eq_getElem?_getD, List.getElem?_eq_getElem hjl]; exact List.getElem_mem hjl)
              generalize lag (t - 500) kk k (ys.take j) = cu at *
              generalize ys.getD j 0 = y at *
              go_wp2
              all_goals
                go_round
                case rel => exact ⟨j + 1, by omega, by go_num, by have := hs.out; congr 1; omega⟩
                case measure => simp [intOf]; omega
            · obtain rfl : j = ys.length := by omega
              rw [hall.out]
              clear hlag hall htb
              generalize lag (t - 500) kk k ys = kl at *
              go_wp2_with (first
                | (at_builtin; refine wpList_append_own _ rfl _ _ 22 rfl (G + 1) 3 i0 (.int .i64 0) 1 8 Try.underlying22 hi hz0 hz1 hz2 rfl (by decide) _ _ _ rfl (hown.out.alloc _) ⟨w3.heap.size, 0, none⟩ 1 1 [.int .i64 (t - 500)] rfl rfl ?d1 ?d2 ?d3 ?d4 ?d5 ?_)
                | (go_at_call 10; (with_reducible refine (num_calls _ _).mono ?_); rintro e w' ⟨rfl, rfl⟩))
              case d2 => rfl
              case d3 => unfold maxLen; omega
              case d4 => omega
              case d5 => have := hGs.out; first | omega | (simp; omega)
              intro v' w4 hown4 hgrow _
              have hne : ∀ i, i < G + 1 → some i ≠ (.slice (some ⟨b, 0, none⟩) ys.length cap : Value).ownBlock := fun i hi he => by have := (hown.out.lt i he.symm).1; omega
              have hg4 : Aside0 (w4.heap[G]? = some (SB 43 kk any' high' kl)) := ⟨(hgrow.block G (Nat.lt_of_lt_of_le hGs.out (below_alloc (Below.refl _ w3) _).size) (hne G (by omega))).trans (((below_alloc (Below.refl _ w3) _).block G hGs.out).trans hg.out)⟩
              have hGs4 : Aside0 (G < w4.heap.size) := ⟨Nat.lt_of_lt_of_le hGs.out (Nat.le_trans (below_alloc (Below.refl _ w3) _).size hgrow.size)⟩
              have HB4 : Aside0 (Below w.heap.size w w4) := ⟨(below_alloc HB.out _).trans ⟨hgrow.os, hgrow.tape, hgrow.output, hgrow.size, fun i hi => hgrow.block i (Nat.lt_of_lt_of_le hi (Nat.le_trans HB.out.size (below_alloc (Below.refl _ w3) _).size)) (hne i (by have := HS0.out; omega))⟩⟩
              have hown5 : Aside0 (w4.ownsRow (G + 1) 3 1 v' (ys ++ [t - 500]).length ((ys ++ [t - 500]).map (Value.int .i64))) := ⟨by simpa using hown4⟩
              have hyb5 : Aside0 (∀ y ∈ ys ++ [t - 500], -500 ≤ y ∧ y ≤ 523) := ⟨app_in hyb.out (by omega) (by omega)⟩
              clear hown4 hgrow hne
              go_wp2_with (first
                | (go_at_call 10; (with_reducible refine (num_calls _ _).mono ?_); rintro e w' ⟨rfl, rfl⟩)
                | (go_at_call 14; (with_reducible refine (k_calls G kk any' high' kl _ hg4.out).mono ?_); rintro e w' ⟨rfl, rfl⟩))
              go_roundw
              case rel => exact ⟨ys ++ [t - 500], any', high', kl, by simp; omega, by simp; omega, rfl, by simp, hyb5.out, hlb.1, hlb.2, q3, q4, hK', hown5, hg4, hGs4, HB4⟩
              case measure => simp [intOf]; omega
      · go_wp2_with fail
        go_ret
        exact ⟨rfl, HB.out⟩
    · go_wp2_with fail
      go_ret
      exact ⟨rfl, HB.out⟩
theorem most_walk (late : Int) (a : Option Addr) (len cap : Nat) (z : List Int) (w : World) (h0 : (Lit.int .i64 late).wf = true)
    (hr : (a = none ∧ len = 0 ∧ cap = 0 ∧ z = []) ∨ ∃ x, a = some x ∧ len ≤ cap ∧ cap ≤ maxLen ∧ z.length = cap ∧ (∀ i, i < z.length → w.cell? (x.add i) = some (.int .i64 (z.getD i 0))) ∧ ∀ n ∈ z, (Lit.int .i64 n).wf = true)
    (hy : len * 8 ≤ 140737488351232) :
    Calls Try.prog 4 #[.int .i64 late, .slice a len cap] w fun e w' => e = .returned (.bool true) ∧ Below w.heap.size w w' := by
  obtain ⟨l, rfl, hl, hm, hw, hc⟩ := ReadsInt.ofRowC hr
  have e1 := and_m late 8 255 256 (by omega) rfl rfl
  exact most_calls late _ a cap l e1 (by omega) (by omega) w ⟨hl⟩ (by omega) ⟨fun a => ⟨_, and_m a 10 1023 1024 (by omega) rfl rfl, by omega, by omega⟩⟩

end Go.Proofs.Ytklegkmaiaegpaa.SlackMostW
