/- The walk of the law ScanCuts, from what its callees answer. No condition beyond those. -/
import Derived.Test.YtmccgkbbgicglaaScanAwake
import Derived.Test.YtmccgkbbgicglaaQScanAllx9
import Derived.Test.YtmccgkbbgicglaaQScanAllx10a
import Derived.Test.YtmccgkbbgicglaaQScanAllx10
namespace Go.Proofs.Ytmccgkbbgicglaa.ScanCutsW
open Go.RowKit Go.Proofs.Ytmccgkbbgicglaa.QScanAll Go.Proofs.Ytmccgkbbgicglaa.ScanPure Go.Proofs.Ytmccgkbbgicglaa.ScanAwakePure Go.Proofs.Ytmccgkbbgicglaa.ScanLoadW Go.Proofs.YtmccgkbbgicglaaW.PrintWords Go.Proofs.YtmccgkbbgicglaaW.PrintLast Go.Proofs.YtmccgkbbgicglaaW.PrintMore
set_option linter.unusedVariables false
set_option linter.unusedSimpArgs false


attribute [local go_sem] max2_int min2_int max_two min_two max_three min_three max_four min_four   -- for this text's walks alone
set_option maxHeartbeats 20000000 in
set_option maxRecDepth 100000 in
theorem cuts_calls (k1 : Nat) (s lx : ByteArray) (bx : Int) (A1 : Option Addr) (c1 : Nat) (cuts : List Int) (o1 o2 want : List S49) (P : Nat → List S49 → ByteArray → Int → Prop) (w : World) (hc1 : cuts.length ≤ c1)
    (AW : Aside0 (∀ w : World, Calls Try.prog 21 #[] w fun e w' => e = .returned (.bool true) ∧ Below w.heap.size w w'))
    (HC : Aside0 (Kd.C (Kd.int .i64) w A1 cuts.length cuts)) (HLC : Aside0 (cuts.length ≤ 4611686018427387904)) (HS : Aside0 (s.size ≤ 1048576))
    (F1 : Aside0 (scan_Scanner_Write.f k1 (⟨#[]⟩ : ByteArray) 0 s = some (o1, lx, bx))) (F0 : Aside0 (bournelaw0_CopyOps.f o1 = some o1)) (F2 : Aside0 (scan_Scanner_Close.f k1 lx bx = some (o2, (⟨#[]⟩ : ByteArray), 0)))
    (HWQ : Aside0 (o1 ++ o2 = want)) (HL : Aside0 ((o1.length + o2.length) * 40 ≤ 140737488355328 ∧ want.length * 40 ≤ 140737488355328)) (FS : Aside0 (bournelaw0_SameOps.f k1 want want = some true))
    (P0 : Aside0 (P 0 [] (⟨#[]⟩ : ByteArray) 0)) (PL : Aside0 (∀ a xs lw bw, P a xs lw bw → xs.length ≤ 100000000))
    (PS : Aside0 (∀ a xs lw bw, P a xs lw bw → ∀ k, a ≤ k → k ≤ s.size → ∃ kk o l b, scan_Scanner_Write.f kk lw bw (s.extract a k) = some (o, l, b) ∧ P k (xs ++ o) l b))
    (PE : Aside0 (∀ xs lw bw, P s.size xs lw bw → ∃ kk o, scan_Scanner_Close.f kk lw bw = some (o, (⟨#[]⟩ : ByteArray), 0) ∧ (xs ++ o) = want)) :
    Calls Try.prog 4 #[.string s, .slice A1 cuts.length c1] w fun e w' => e = .returned (.bool true) ∧ Below w.heap.size w w' := by
  have HB := Aside0.mk (Below.refl w.heap.size w)
  go_enter Try.func4, Try.ntmps4
  go_wp2_with fail
  refine (AW.out _).mono ?_
  rintro e w2 ⟨rfl, hb⟩
  have n1_ : Aside0 (Below w.heap.size w w2) := ⟨below_step HB.out hb⟩
  clear HB
  have HB := n1_
  clear n1_
  clear hb AW
  go_wp2_with fail
  refine (scan_New.calls _ _ w _ HB.out rfl).mono ?_
  rintro e w3 ⟨g, rfl, hi, -, hb⟩
  have n2_ : Aside0 (Below w.heap.size w w3) := ⟨below_step HB.out hb⟩
  have n3_ : Aside0 (IsS58 w w3 g (⟨#[]⟩ : ByteArray) 0) := ⟨hi⟩
  clear HB
  have HB := n2_
  have HX := n3_
  clear n2_ n3_
  clear hi hb
  go_wp2_with fail
  refine (scan_New.calls _ _ w3 _ (Below.refl _ _) rfl).mono ?_
  rintro e w4 ⟨gy, rfl, hi, -, hb⟩
  obtain ⟨hi, hny⟩ := new_st HB.out HX.out hi
  have n4_ : Aside0 (Below w.heap.size w w4) := ⟨below_step HB.out hb⟩
  have n5_ : Aside0 (IsS58 w w4 g (⟨#[]⟩ : ByteArray) 0) := ⟨IsS58.below HX.out hb⟩
  have n6_ : Aside0 (IsS58 w w4 gy (⟨#[]⟩ : ByteArray) 0) := ⟨hi⟩
  clear HB HX
  have HB := n4_
  have HX := n5_
  have HY := n6_
  clear n4_ n5_ n6_
  clear hi hb
  go_wp2_with fail
  have hbs_ := below_size HB.out
  refine (scan_Scanner_Write.calls k1 g _ 0 s _ _ _ w _ HX.out HB.out F1.out).mono ?_
  rintro e w5 ⟨va_, rfl, ho, hi, hb, hk⟩
  have n7_ : Aside0 (Below w.heap.size w w5) := ⟨hb⟩
  have n8_ : Aside0 (IsS58 w w5 g lx bx) := ⟨hi⟩
  have n9_ : Aside0 (IsS58 w w5 gy (⟨#[]⟩ : ByteArray) 0) := ⟨st_keep HY.out hk hny⟩
  have n10_ : Aside0 (Kd.R k49 49 w5 w.heap.size (fun _ => True) va_ o1) := ⟨Kd.R_lower ho hbs_⟩
  clear HB HX HY
  have HB := n7_
  have HX := n8_
  have HY := n9_
  have R0 := n10_
  clear n7_ n8_ n9_ n10_
  clear hi hb hk ho hbs_
  obtain ⟨r0A, r0C, rfl⟩ := Kd.R_slice R0.out
  obtain ⟨-, hc0, hC0⟩ := Kd.R_reads' R0.out
  have hbs_ := below_size HB.out
  go_wp2_with fail
  refine (bournelaw0_CopyOps.calls _ _ o1 o1 _ hC0 hc0 F0.out).mono ?_
  rintro e w6 ⟨va_, rfl, ho, hb⟩
  clear hc0 hC0
  clear R0
  have n11_ : Aside0 (Below w.heap.size w w6) := ⟨below_step HB.out hb⟩
  have n12_ : Aside0 (IsS58 w w6 g lx bx) := ⟨IsS58.below HX.out hb⟩
  have n13_ : Aside0 (IsS58 w w6 gy (⟨#[]⟩ : ByteArray) 0) := ⟨IsS58.below HY.out hb⟩
  have n14_ : Aside0 (Kd.R k49 49 w6 w.heap.size (fun _ => True) va_ o1) := ⟨Kd.R_lower ho hbs_⟩
  clear HB HX HY
  have HB := n11_
  have HX := n12_
  have HY := n13_
  have R1 := n14_
  clear n11_ n12_ n13_ n14_
  clear hb ho hbs_
  obtain ⟨r1A, r1C, rfl⟩ := Kd.R_slice R1.out
  go_wp2_with fail
  have hbs_ := below_size HB.out
  refine (scan_Scanner_Close.calls k1 g _ _ _ _ _ w _ HX.out HB.out F2.out).mono ?_
  rintro e w7 ⟨va_, rfl, ho, hi, hb, hk⟩
  have n15_ : Aside0 (Below w.heap.size w w7) := ⟨hb⟩
  have n16_ : Aside0 (IsS58 w w7 g (⟨#[]⟩ : ByteArray) 0) := ⟨hi⟩
  have n17_ : Aside0 (IsS58 w w7 gy (⟨#[]⟩ : ByteArray) 0) := ⟨st_keep HY.out hk hny⟩
  have n18_ : Aside0 (Kd.R k49 49 w7 w.heap.size (fun _ => True) (.slice r1A o1.length r1C) o1) := ⟨rw_keep R1.out HX.out hk⟩
  have n19_ : Aside0 (Kd.R k49 49 w7 w.heap.size (fun _ => True) va_ o2) := ⟨Kd.R_lower ho hbs_⟩
  clear HB HX HY R1
  have HB := n15_
  have HX := n16_
  have HY := n17_
  have R1 := n18_
  have R2 := n19_
  clear n15_ n16_ n17_ n18_ n19_
  clear hi hb hk ho hbs_
  obtain ⟨r2A, r2C, rfl⟩ := Kd.R_slice R2.out
  go_upto_region 8 with (first | ((with_reducible refine gate_builtin (b := .append) (xs := #[.tmp 26, .tmp 28]) rfl ?_); at_builtin; refine Kd.R_append_rows k49 (w0 := w) w.heap.size rfl (.tmp 26) (.tmp 28) 34 49 (.agg #[(.int .i64 0), (.int .i64 0), (.int .i64 0), (.int .i64 0), (.int .i64 0)]) 40 rfl Try.underlying34 info49 rfl (by decide) (by omega) (.slice r1A o1.length r1C) o1 o2 _ _ _ (fun _ => True) (fun _ => False) rfl rfl R1.out (Kd.R_reads' R2.out).2.2 (fun _ _ h => h) (fun _ h => h.elim) (fun _ _ => trivial) HB.out (below_size HB.out) (by have := HL.out; omega) ?_; intro v3_ w8 ho hb hg hat))
  clear R2
  have n20_ : Aside0 (Below w.heap.size w w8) := ⟨hb⟩
  have n21_ : Aside0 (IsS58 w w8 g (⟨#[]⟩ : ByteArray) 0) := ⟨IsS58.grown HX.out hg (IsS58.own_ne HX.out R1.out (by decide))⟩
  have n22_ : Aside0 (IsS58 w w8 gy (⟨#[]⟩ : ByteArray) 0) := ⟨IsS58.grown HY.out hg (IsS58.own_ne HY.out R1.out (by decide))⟩
  have n23_ : Aside0 (Kd.R k49 49 w8 w.heap.size (fun _ => True) v3_ (o1 ++ o2)) := ⟨ho⟩
  clear HB HX HY R1
  have HB := n20_
  have HX := n21_
  have HY := n22_
  have R1 := n23_
  clear n20_ n21_ n22_ n23_
  clear ho hb hg hat
  have hww := HWQ.out
  rw [hww] at R1
  clear hww
  obtain ⟨wA, wC, rfl⟩ := Kd.R_slice R1.out
  have HM : Aside0 (w.heap.size ≤ w8.heap.size) := ⟨below_size HB.out⟩
  obtain ⟨B, hB⟩ : ∃ B, w8.heap.size = B := ⟨_, rfl⟩
  have HBL : Aside0 (B ≤ w8.heap.size) := ⟨Nat.le_of_eq hB.symm⟩
  have RW : Aside0 (Kd.R k49 49 w8 w.heap.size (fun k_ => k_ < B) (.slice wA want.length wC) want) := ⟨Kd.R_mono (Kd.R_bound R1.out) (fun k_ h => hB ▸ h.2.2.1)⟩
  clear R1 hB
  have RA : Aside0 (Kd.R k49 49 w8 w.heap.size (fun k_ => B ≤ k_) (.slice none 0 0) ([] : List S49)) := ⟨Kd.R_nil _ _ _ _ _⟩
  go_wp2_with fail
  go_loopg [8, 9, 10] cuts.length (fun kq v8 v9 v10 w' => ∃ (i a : Nat) (xs : List S49) (A : Option Addr) (c : Nat) (lw : ByteArray) (bw : Int), v8 = .slice A xs.length c ∧ v9 = .int .i64 (a : Int) ∧ v10 = .int .i64 (i : Int) ∧ Aside0 (i + kq = cuts.length) ∧ Aside0 (a ≤ s.size) ∧ Aside0 (P a xs lw bw) ∧ Aside0 (B ≤ w'.heap.size) ∧
      Aside0 (Below w.heap.size w w') ∧ Aside0 (IsS58 w w' g (⟨#[]⟩ : ByteArray) 0) ∧ Aside0 (IsS58 w w' gy lw bw) ∧ Aside0 (Kd.R k49 49 w' w.heap.size (fun k_ => k_ < B) (.slice wA want.length wC) want) ∧ Aside0 (Kd.R k49 49 w' w.heap.size (fun k_ => B ≤ k_) (.slice A xs.length c) xs))
  case atStart => exact ⟨0, 0, [], none, 0, _, _, rfl, rfl, rfl, ⟨by omega⟩, ⟨Nat.zero_le _⟩, ⟨P0.out⟩, HBL, HB, HX, HY, RW, RA⟩
  case round =>
    clear HB HX HY RW RA HBL
    obtain ⟨i, a, xs, A, c, lw, bw, rfl, rfl, rfl, HI, HA, HP, HBL, HB, HX, HY, RW, RA⟩ := hrel
    have hlen := HLC.out
    have hcC := Kd.C_below HC.out HB.out
    have hsz := HS.out
    have hab := HA.out
    by_cases hgo : i < cuts.length ∧ a < s.size
    · obtain ⟨g1, g2⟩ := hgo
      have q1 : decide ((i : Int) < (cuts.length : Int)) = true := decide_eq_true (by omega)
      have q2 : decide ((a : Int) < (s.size : Int)) = true := decide_eq_true (by omega)
      have q3 : (i : Int) < (cuts.length : Int) := by omega
      have q4 : (a : Int) < (s.size : Int) := by omega
      obtain ⟨ad, ea, hx⟩ := Kd.at_int hcC (i : Int) (by omega) q3
      cases ea
      simp only [Int.toNat_natCast] at hx
      clear hcC
      have hq0 : Go.bits .and .i64 (rd cuts (i : Int)) 15 = (rd cuts (i : Int)) % 16 := and_m _ 4 15 16 (by decide) (by decide) (by decide)
      obtain ⟨q, hq⟩ : ∃ q : Nat, (rd cuts (i : Int)) % 16 = (q : Int) := ⟨((rd cuts (i : Int)) % 16).toNat, by omega⟩
      rw [hq] at hq0
      have hq15 : q ≤ 15 := by omega
      clear hq
      have hw1 : wrap64 ((a : Int) + (q : Int)) = ((a + q : Nat) : Int) := by rw [wrap64_id (by omega) (by omega)]; omega
      have HW1 := Aside0.mk hw1
      clear hw1
      have hw2 : wrap64 ((i : Int) + 1) = ((i + 1 : Nat) : Int) := by rw [wrap64_id (by omega) (by omega)]; omega
      have HW2 := Aside0.mk hw2
      clear hw2
      obtain ⟨t, ht⟩ : ∃ t : Nat, a + q = t := ⟨_, rfl⟩
      rw [ht] at HW1
      obtain ⟨k, hk1, hk2, hkd⟩ : ∃ k : Nat, a ≤ k ∧ k ≤ s.size ∧ (((decide ((t : Int) < (s.size : Int)) = true ∧ ((t : Int) < (s.size : Int)) = True ∧ (t < s.size) = True) ∧ k = t) ∨ ((decide ((t : Int) < (s.size : Int)) = false ∧ ((t : Int) < (s.size : Int)) = False ∧ (t < s.size) = False) ∧ k = s.size)) := by
        by_cases z : t < s.size
        · exact ⟨t, by omega, by omega, .inl ⟨⟨decide_eq_true (by omega), eq_true (by omega), eq_true z⟩, rfl⟩⟩
        · exact ⟨s.size, by omega, Nat.le_refl _, .inr ⟨⟨decide_eq_false (by omega), eq_false (by omega), eq_false z⟩, rfl⟩⟩
      obtain ⟨kk, o, l, b, F3, HP2⟩ := PS.out a xs lw bw HP.out k hk1 hk2
      have hPL := PL.out _ _ _ _ HP2
      rw [List.length_append] at hPL
      have b1 : ((a : Int) ≤ (k : Int)) = True := eq_true (by omega)
      have b2 : (a ≤ k) = True := eq_true hk1
      have b3 : ((k : Int) ≤ (s.size : Int)) = True := eq_true (by omega)
      have b4 : (k ≤ s.size) = True := eq_true hk2
      have p1 : ((0 : Int) ≤ (i : Int)) = True := eq_true (by omega)
      have p2 := eq_true q3
      have p3 : (i < cuts.length) = True := eq_true g1
      have HK2 := Aside0.mk hk2
      have HPL := Aside0.mk hPL
      have HP2A := Aside0.mk HP2
      have HF3 := Aside0.mk F3
      clear hPL HP2 F3 HP ht hk1 hk2 hlen g1 g2
      rcases hkd with ⟨⟨m1, m2, m3⟩, rfl⟩ | ⟨⟨m1, m2, m3⟩, rfl⟩
      all_goals
        have HSZ := Aside0.mk hsz
        have HAB := Aside0.mk hab
        have HQ15 := Aside0.mk hq15
        clear hsz hab hq15
        have hw1 := HW1.out
        go_wp2_with fail
        clear hw1
        have hbs_ := below_size HB.out
        have HYo := HY
        refine (scan_Scanner_Write.calls kk gy _ _ _ _ _ _ w _ HY.out HB.out HF3.out).mono ?_
        rintro e w11 ⟨va_, rfl, ho, hi, hb, hk⟩
        have RW_ : Aside0 (Kd.R k49 49 w11 w.heap.size (fun k_ => k_ < B) (.slice wA want.length wC) want) := ⟨rw_keep RW.out HYo.out hk⟩
        have RA_ : Aside0 (Kd.R k49 49 w11 w.heap.size (fun k_ => B ≤ k_) (.slice A xs.length c) xs) := ⟨rw_keep RA.out HYo.out hk⟩
        have HBL_ : Aside0 (B ≤ w11.heap.size) := ⟨Nat.le_trans HBL.out (keep_size hk)⟩
        clear RW RA HBL
        have RW := RW_
        have RA := RA_
        have HBL := HBL_
        clear RW_ RA_ HBL_
        have n24_ : Aside0 (Below w.heap.size w w11) := ⟨hb⟩
        have n25_ : Aside0 (IsS58 w w11 g (⟨#[]⟩ : ByteArray) 0) := ⟨st_keep HX.out hk hny.symm⟩
        have n26_ : Aside0 (IsS58 w w11 gy l b) := ⟨hi⟩
        have n27_ : Aside0 (Kd.R k49 49 w11 w.heap.size (fun _ => True) va_ o) := ⟨Kd.R_lower ho hbs_⟩
        clear HB HX HY
        have HB := n24_
        have HX := n25_
        have HY := n26_
        have RN := n27_
        clear n24_ n25_ n26_ n27_
        clear hi hb hk ho hbs_ HYo
        obtain ⟨rnA, rnC, rfl⟩ := Kd.R_slice RN.out
        obtain ⟨xs2, hx2⟩ : ∃ z, xs ++ o = z := ⟨_, rfl⟩
        go_upto_region 15 with (first | ((with_reducible refine gate_builtin (b := .append) (xs := #[.tmp 52, .tmp 58]) rfl ?_); at_builtin; refine Kd.R_append_rows k49 (w0 := w) w.heap.size rfl (.tmp 52) (.tmp 58) 34 49 (.agg #[(.int .i64 0), (.int .i64 0), (.int .i64 0), (.int .i64 0), (.int .i64 0)]) 40 rfl Try.underlying34 info49 rfl (by decide) (by omega) (.slice A xs.length c) xs o _ _ _ (fun k_ => B ≤ k_) (fun _ => False) rfl rfl RA.out (Kd.R_reads' RN.out).2.2 (fun _ _ h => h) (fun _ h => h.elim) (fun _ h => Nat.le_trans HBL.out h) HB.out (below_size HB.out) (by have := HPL.out; omega) ?_; intro v4_ w12 ho hb hg hat))
        rw [hx2] at ho
        have RW_ : Aside0 (Kd.R k49 49 w12 w.heap.size (fun k_ => k_ < B) (.slice wA want.length wC) want) := ⟨Kd.R_mono (Kd.R_after (ok := fun k_ => k_ < B) (Kd.R_mono RW.out (fun k_ h => ⟨h, fun e => Nat.not_lt.2 (RA.out.1 k_ e.symm) h⟩)) hg hat) (fun _ h => h.1)⟩
        have HBL_ : Aside0 (B ≤ w12.heap.size) := ⟨Nat.le_trans HBL.out hg.size⟩
        clear RN
        have n28_ : Aside0 (Below w.heap.size w w12) := ⟨hb⟩
        have n29_ : Aside0 (IsS58 w w12 g (⟨#[]⟩ : ByteArray) 0) := ⟨IsS58.grown HX.out hg (IsS58.own_ne HX.out RA.out (by decide))⟩
        have n30_ : Aside0 (IsS58 w w12 gy l b) := ⟨IsS58.grown HY.out hg (IsS58.own_ne HY.out RA.out (by decide))⟩
        clear HB HX HY
        have HB := n28_
        have HX := n29_
        have HY := n30_
        clear n28_ n29_ n30_
        have RA_ := Aside0.mk ho
        clear RW RA HBL
        have RW := RW_
        have RA := RA_
        have HBL := HBL_
        clear RW_ RA_ HBL_ ho hb hg hat
        obtain ⟨raA, raC, rfl⟩ := Kd.R_slice RA.out
        rw [hx2] at HP2A
        have hw2 := HW2.out
        go_wp2_with fail
        go_roundg (cuts.length - (i + 1))
        case measure => clear hw2; have := HI.out; omega
        case rel => exact ⟨i + 1, _, _, _, _, _, _, by first | rfl | (simp; done), by first | rfl | (simp; done), by first | rfl | rw [hw2] | (simp; done), ⟨by clear hw2; have := HI.out; omega⟩, HK2, HP2A, HBL, HB, HX, HY, RW, RA⟩
    · have hx : (decide ((i : Int) < (cuts.length : Int)) = false ∧ ¬ ((i : Int) < (cuts.length : Int))) ∨ ((decide ((i : Int) < (cuts.length : Int)) = true ∧ (i : Int) < (cuts.length : Int)) ∧ decide ((a : Int) < (s.size : Int)) = false ∧ ¬ ((a : Int) < (s.size : Int))) := by
        by_cases z : i < cuts.length
        · exact .inr ⟨⟨decide_eq_true (by omega), by omega⟩, decide_eq_false (by omega), by omega⟩
        · exact .inl ⟨decide_eq_false (by omega), by omega⟩
      obtain ⟨kk, o, l, b, F3, HP2⟩ := PS.out a xs lw bw HP.out s.size hab (Nat.le_refl _)
      have hPL := PL.out _ _ _ _ HP2
      rw [List.length_append] at hPL
      obtain ⟨k4, o4, F4, hE⟩ := PE.out _ _ _ HP2
      have b1 : ((a : Int) ≤ (s.size : Int)) = True := eq_true (by omega)
      have b2 : (a ≤ s.size) = True := eq_true hab
      have HPL := Aside0.mk hPL
      have HF3 := Aside0.mk F3
      have HF4 := Aside0.mk F4
      have HE := Aside0.mk hE
      clear hPL HP2 F3 F4 hE HP hcC hlen hgo
      rcases hx with ⟨q1, q3⟩ | ⟨⟨q1, q3⟩, q2, q4⟩
      all_goals
        go_wp2_with fail
        have hbs_ := below_size HB.out
        have HYo := HY
        refine (scan_Scanner_Write.calls kk gy _ _ _ _ _ _ w _ HY.out HB.out HF3.out).mono ?_
        rintro e w11 ⟨va_, rfl, ho, hi, hb, hk⟩
        have RW_ : Aside0 (Kd.R k49 49 w11 w.heap.size (fun k_ => k_ < B) (.slice wA want.length wC) want) := ⟨rw_keep RW.out HYo.out hk⟩
        have RA_ : Aside0 (Kd.R k49 49 w11 w.heap.size (fun k_ => B ≤ k_) (.slice A xs.length c) xs) := ⟨rw_keep RA.out HYo.out hk⟩
        have HBL_ : Aside0 (B ≤ w11.heap.size) := ⟨Nat.le_trans HBL.out (keep_size hk)⟩
        clear RW RA HBL
        have RW := RW_
        have RA := RA_
        have HBL := HBL_
        clear RW_ RA_ HBL_
        have n31_ : Aside0 (Below w.heap.size w w11) := ⟨hb⟩
        have n32_ : Aside0 (IsS58 w w11 g (⟨#[]⟩ : ByteArray) 0) := ⟨st_keep HX.out hk hny.symm⟩
        have n33_ : Aside0 (IsS58 w w11 gy l b) := ⟨hi⟩
        have n34_ : Aside0 (Kd.R k49 49 w11 w.heap.size (fun _ => True) va_ o) := ⟨Kd.R_lower ho hbs_⟩
        clear HB HX HY
        have HB := n31_
        have HX := n32_
        have HY := n33_
        have RN := n34_
        clear n31_ n32_ n33_ n34_
        clear hi hb hk ho hbs_ HYo
        obtain ⟨rnA, rnC, rfl⟩ := Kd.R_slice RN.out
        obtain ⟨xs2, hx2⟩ : ∃ z, xs ++ o = z := ⟨_, rfl⟩
        rw [hx2] at HE
        go_upto_region 17 with (first | ((with_reducible refine gate_builtin (b := .append) (xs := #[.tmp 61, .tmp 66]) rfl ?_); at_builtin; refine Kd.R_append_rows k49 (w0 := w) w.heap.size rfl (.tmp 61) (.tmp 66) 34 49 (.agg #[(.int .i64 0), (.int .i64 0), (.int .i64 0), (.int .i64 0), (.int .i64 0)]) 40 rfl Try.underlying34 info49 rfl (by decide) (by omega) (.slice A xs.length c) xs o _ _ _ (fun k_ => B ≤ k_) (fun _ => False) rfl rfl RA.out (Kd.R_reads' RN.out).2.2 (fun _ _ h => h) (fun _ h => h.elim) (fun _ h => Nat.le_trans HBL.out h) HB.out (below_size HB.out) (by have := HPL.out; omega) ?_; intro v4_ w12 ho hb hg hat))
        rw [hx2] at ho
        have RW_ : Aside0 (Kd.R k49 49 w12 w.heap.size (fun k_ => k_ < B) (.slice wA want.length wC) want) := ⟨Kd.R_mono (Kd.R_after (ok := fun k_ => k_ < B) (Kd.R_mono RW.out (fun k_ h => ⟨h, fun e => Nat.not_lt.2 (RA.out.1 k_ e.symm) h⟩)) hg hat) (fun _ h => h.1)⟩
        have HBL_ : Aside0 (B ≤ w12.heap.size) := ⟨Nat.le_trans HBL.out hg.size⟩
        clear RN
        have n35_ : Aside0 (Below w.heap.size w w12) := ⟨hb⟩
        have n36_ : Aside0 (IsS58 w w12 g (⟨#[]⟩ : ByteArray) 0) := ⟨IsS58.grown HX.out hg (IsS58.own_ne HX.out RA.out (by decide))⟩
        have n37_ : Aside0 (IsS58 w w12 gy l b) := ⟨IsS58.grown HY.out hg (IsS58.own_ne HY.out RA.out (by decide))⟩
        clear HB HX HY
        have HB := n35_
        have HX := n36_
        have HY := n37_
        clear n35_ n36_ n37_
        have RA_ := Aside0.mk ho
        clear RW RA HBL
        have RW := RW_
        have RA := RA_
        have HBL := HBL_
        clear RW_ RA_ HBL_ ho hb hg hat
        obtain ⟨raA, raC, rfl⟩ := Kd.R_slice RA.out
        go_wp2_with fail
        have hbs_ := below_size HB.out
        have HYo := HY
        refine (scan_Scanner_Close.calls k4 gy _ _ _ _ _ w _ HY.out HB.out HF4.out).mono ?_
        rintro e w13 ⟨va_, rfl, ho, hi, hb, hk⟩
        have RW_ : Aside0 (Kd.R k49 49 w13 w.heap.size (fun k_ => k_ < B) (.slice wA want.length wC) want) := ⟨rw_keep RW.out HYo.out hk⟩
        have RA_ : Aside0 (Kd.R k49 49 w13 w.heap.size (fun k_ => B ≤ k_) (.slice raA xs2.length raC) xs2) := ⟨rw_keep RA.out HYo.out hk⟩
        have HBL_ : Aside0 (B ≤ w13.heap.size) := ⟨Nat.le_trans HBL.out (keep_size hk)⟩
        clear RW RA HBL
        have RW := RW_
        have RA := RA_
        have HBL := HBL_
        clear RW_ RA_ HBL_
        have n38_ : Aside0 (Below w.heap.size w w13) := ⟨hb⟩
        have n39_ : Aside0 (IsS58 w w13 g (⟨#[]⟩ : ByteArray) 0) := ⟨st_keep HX.out hk hny.symm⟩
        have n40_ : Aside0 (IsS58 w w13 gy (⟨#[]⟩ : ByteArray) 0) := ⟨hi⟩
        have n41_ : Aside0 (Kd.R k49 49 w13 w.heap.size (fun _ => True) va_ o4) := ⟨Kd.R_lower ho hbs_⟩
        clear HB HX HY
        have HB := n38_
        have HX := n39_
        have HY := n40_
        have RN := n41_
        clear n38_ n39_ n40_ n41_
        clear hi hb hk ho hbs_ HYo
        obtain ⟨rnA, rnC, rfl⟩ := Kd.R_slice RN.out
        go_upto_region 18 with (first | ((with_reducible refine gate_builtin (b := .append) (xs := #[.tmp 68, .tmp 70]) rfl ?_); at_builtin; refine Kd.R_append_rows k49 (w0 := w) w.heap.size rfl (.tmp 68) (.tmp 70) 34 49 (.agg #[(.int .i64 0), (.int .i64 0), (.int .i64 0), (.int .i64 0), (.int .i64 0)]) 40 rfl Try.underlying34 info49 rfl (by decide) (by omega) (.slice raA xs2.length raC) xs2 o4 _ _ _ (fun k_ => B ≤ k_) (fun _ => False) rfl rfl RA.out (Kd.R_reads' RN.out).2.2 (fun _ _ h => h) (fun _ h => h.elim) (fun _ h => Nat.le_trans HBL.out h) HB.out (below_size HB.out) (by have h1 := congrArg List.length HE.out; rw [List.length_append] at h1; have := HL.out; omega) ?_; intro v4_ w14 ho hb hg hat))
        rw [HE.out] at ho
        have RW_ : Aside0 (Kd.R k49 49 w14 w.heap.size (fun k_ => k_ < B) (.slice wA want.length wC) want) := ⟨Kd.R_mono (Kd.R_after (ok := fun k_ => k_ < B) (Kd.R_mono RW.out (fun k_ h => ⟨h, fun e => Nat.not_lt.2 (RA.out.1 k_ e.symm) h⟩)) hg hat) (fun _ h => h.1)⟩
        have HBL_ : Aside0 (B ≤ w14.heap.size) := ⟨Nat.le_trans HBL.out hg.size⟩
        clear RN
        have n42_ : Aside0 (Below w.heap.size w w14) := ⟨hb⟩
        have n43_ : Aside0 (IsS58 w w14 g (⟨#[]⟩ : ByteArray) 0) := ⟨IsS58.grown HX.out hg (IsS58.own_ne HX.out RA.out (by decide))⟩
        have n44_ : Aside0 (IsS58 w w14 gy (⟨#[]⟩ : ByteArray) 0) := ⟨IsS58.grown HY.out hg (IsS58.own_ne HY.out RA.out (by decide))⟩
        clear HB HX HY
        have HB := n42_
        have HX := n43_
        have HY := n44_
        clear n42_ n43_ n44_
        have RA_ := Aside0.mk ho
        clear RW RA HBL
        have RW := RW_
        have RA := RA_
        have HBL := HBL_
        clear RW_ RA_ HBL_ ho hb hg hat
        obtain ⟨rbA, rbC, rfl⟩ := Kd.R_slice RA.out
        obtain ⟨-, hc0, hC0⟩ := Kd.R_reads' RA.out
        obtain ⟨-, hc1, hC1⟩ := Kd.R_reads' RW.out
        go_wp2_with fail
        refine (same_calls k1 _ _ want _ _ want true _ hC0 hc0 hC1 hc1 FS.out).mono ?_
        rintro e w15 ⟨rfl, hb⟩
        clear hc0 hC0 hc1 hC1 RA RW
        have n45_ : Aside0 (Below w.heap.size w w15) := ⟨below_step HB.out hb⟩
        have n46_ : Aside0 (IsS58 w w15 g (⟨#[]⟩ : ByteArray) 0) := ⟨IsS58.below HX.out hb⟩
        have n47_ : Aside0 (IsS58 w w15 gy (⟨#[]⟩ : ByteArray) 0) := ⟨IsS58.below HY.out hb⟩
        clear HB HX HY
        have HB := n45_
        have HX := n46_
        have HY := n47_
        clear n45_ n46_ n47_
        clear hb
        go_wp2_with fail
        refine (scan_Scanner_Waits.calls g _ _ _ _ _ w _ HX.out HB.out rfl).mono ?_
        rintro e w20 ⟨rfl, hi, hb, hk⟩
        have n48_ : Aside0 (Below w.heap.size w w20) := ⟨hb⟩
        have n49_ : Aside0 (IsS58 w w20 g (⟨#[]⟩ : ByteArray) 0) := ⟨hi⟩
        have n50_ : Aside0 (IsS58 w w20 gy (⟨#[]⟩ : ByteArray) 0) := ⟨st_keep HY.out hk hny⟩
        clear HB HX HY
        have HB := n48_
        have HX := n49_
        have HY := n50_
        clear n48_ n49_ n50_
        clear hi hb hk
        go_wp2_with fail
        refine (scan_Scanner_Waits.calls gy _ _ _ _ _ w _ HY.out HB.out rfl).mono ?_
        rintro e w21 ⟨rfl, hi, hb, hk⟩
        have n51_ : Aside0 (Below w.heap.size w w21) := ⟨hb⟩
        have n52_ : Aside0 (IsS58 w w21 g (⟨#[]⟩ : ByteArray) 0) := ⟨st_keep HX.out hk hny.symm⟩
        have n53_ : Aside0 (IsS58 w w21 gy (⟨#[]⟩ : ByteArray) 0) := ⟨hi⟩
        clear HB HX HY
        have HB := n51_
        have HX := n52_
        have HY := n53_
        clear n51_ n52_ n53_
        clear hi hb hk
        go_wp2_with fail
        refine (scan_Scanner_Bad.calls g _ _ _ _ _ w _ HX.out HB.out rfl).mono ?_
        rintro e w22 ⟨rfl, hi, hb, hk⟩
        have n54_ : Aside0 (Below w.heap.size w w22) := ⟨hb⟩
        have n55_ : Aside0 (IsS58 w w22 g (⟨#[]⟩ : ByteArray) 0) := ⟨hi⟩
        have n56_ : Aside0 (IsS58 w w22 gy (⟨#[]⟩ : ByteArray) 0) := ⟨st_keep HY.out hk hny⟩
        clear HB HX HY
        have HB := n54_
        have HX := n55_
        have HY := n56_
        clear n54_ n55_ n56_
        clear hi hb hk
        go_wp2_with fail
        refine (scan_Scanner_Bad.calls gy _ _ _ _ _ w _ HY.out HB.out rfl).mono ?_
        rintro e w23 ⟨rfl, hi, hb, hk⟩
        have n57_ : Aside0 (Below w.heap.size w w23) := ⟨hb⟩
        have n58_ : Aside0 (IsS58 w w23 g (⟨#[]⟩ : ByteArray) 0) := ⟨st_keep HX.out hk hny.symm⟩
        have n59_ : Aside0 (IsS58 w w23 gy (⟨#[]⟩ : ByteArray) 0) := ⟨hi⟩
        clear HB HX HY
        have HB := n57_
        have HX := n58_
        have HY := n59_
        clear n57_ n58_ n59_
        clear hi hb hk
        go_wp2_with fail
        go_ret
        exact ⟨by first | rfl | (simp; done), HB.out⟩

end Go.Proofs.Ytmccgkbbgicglaa.ScanCutsW
