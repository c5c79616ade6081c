/- The walk of the law ScanLoads, from what its callees answer. No condition beyond those. -/
import Derived.Test.YtmccgkbbgicglaaScanAwake
import Derived.Test.YtmccgkbbgicglaaQScanAllx9
import Derived.Test.YtmccgkbbgicglaaQScanAllx10a
namespace Go.Proofs.Ytmccgkbbgicglaa.ScanLoadsW
open Go.RowKit Go.Proofs.Ytmccgkbbgicglaa.QScanAll Go.Proofs.Ytmccgkbbgicglaa.ScanPure Go.Proofs.Ytmccgkbbgicglaa.ScanAwakePure Go.Proofs.Ytmccgkbbgicglaa.ScanLoadW Go.Proofs.YtmccgkbbgicglaaW.PrintWords Go.Proofs.YtmccgkbbgicglaaW.PrintLast Go.Proofs.YtmccgkbbgicglaaW.PrintMore
set_option linter.unusedVariables false
set_option linter.unusedSimpArgs false


def T6_11 : Bool × List (List Nat × List Nat) := (true, [([], []), ([], []), ([], []), ([1, 2], [1, 2]), ([0, 3], [0, 3]), ([], []), ([], []), ([], []), ([6, 7], [6, 7]), ([5, 8, 4], [5, 8]), ([4, 9, 9], [4, 9]), ([10], [10]), ([11, 10], [11]), ([12], [12]), ([13, 12, 12], [12, 13]), ([12], [12]), ([15, 14, 12], [12, 15]), ([14, 16, 12], [12, 14, 16]), ([12, 17], [12, 17]), ([18, 16], [18]), ([19], [19]), ([20, 19, 19], [19, 20]), ([19], [19]), ([22, 21, 19], [19, 22]), ([21, 23, 19], [19, 21, 23]), ([19, 24], [19, 24])])
def B6_11 : List Nat := [0, 0, 0, 6, 15, 0, 0, 0, 192, 511, 1023, 2047, 4095, 8191, 16383, 8191, 65535, 131071, 262143, 524287, 1048575, 2097151, 1048575, 8388607, 16777215, 33554431]
theorem tab6_11 : rtab .any (opsOf Try.f6 11) = T6_11 := by kernel_rfl
theorem bits6_11 : waitsOk T6_11.2 B6_11 = true := by kernel_rfl
set_option maxHeartbeats 20000000 in
set_option maxRecDepth 100000 in
theorem loads_calls (kk : Nat) (s rest l1 l2 l3 l4 x : ByteArray) (cut b1 b2 b3 b4 p e_ : Int) (m : Nat) (o1 o2 o3 o4 : List S49) (w : World)
    (AW : Aside0 (∀ w : World, Calls Try.prog 21 #[] w fun e w' => e = .returned (.bool true) ∧ Below w.heap.size w w'))
    (hz : (IntKind.u64.wrap (wrap64 ((s.size : Int) + 1)) = 0) = False) (hm : wrap64 ((IntKind.u64.wrap cut).tmod (IntKind.u64.wrap (wrap64 ((s.size : Int) + 1)))) = (m : Int)) (HML : Aside0 (m ≤ s.size))
    (F1 : Aside0 (scan_Scanner_Write.f kk (⟨#[]⟩ : ByteArray) 0 (s.extract 0 m) = some (o1, l1, b1)))
    (F2 : Aside0 (frame_Get.f kk l1 0 = some (x, p, e_))) (HP : Aside0 (0 ≤ b1 ∧ b1 ≤ 1073741823 ∧ (l1.toList = ([] : List UInt8) ∨ e_ = 801)))
    (F3 : Aside0 (scan_Scanner_Write.f kk l1 b1 (s.extract m s.size) = some (o2, l2, b2))) (F4 : Aside0 (bournelaw0_SameOps.f kk o2 o2 = some true))
    (F5 : Aside0 (scan_Scanner_Write.f kk l2 b2 rest = some (o3, l3, b3))) (F6 : Aside0 (bournelaw0_SameOps.f kk o3 o3 = some true))
    (F7 : Aside0 (scan_Scanner_Close.f kk l3 b3 = some (o4, l4, b4))) (F8 : Aside0 (bournelaw0_SameOps.f kk o4 o4 = some true)) :
    Calls Try.prog 6 #[.string s, .int .i64 cut, .string rest] w fun e w' => e = .returned (.bool true) ∧ Below w.heap.size w w' := by
  have HB := Aside0.mk (Below.refl w.heap.size w)
  have hml := HML.out
  have hml2 : ((m : Int) ≤ (s.size : Int)) = True := eq_true (by omega)
  have hml3 : decide ((m : Int) ≤ (s.size : Int)) = true := decide_eq_true (by omega)
  go_enter Try.func6, Try.ntmps6
  go_wp2_with fail
  refine (AW.out _).mono ?_
  rintro e w2 ⟨rfl, hb⟩
  have n1_ : Aside0 (Below w.heap.size w w2) := ⟨below_step HB.out hb⟩
  clear HB
  have HB := n1_
  clear n1_
  clear hb AW
  go_wp2_with fail
  refine (scan_New.calls _ _ w _ HB.out rfl).mono ?_
  rintro e w3 ⟨g, rfl, hi, -, hb⟩
  have n2_ : Aside0 (Below w.heap.size w w3) := ⟨below_step HB.out hb⟩
  have n3_ : Aside0 (IsS58 w w3 g (⟨#[]⟩ : ByteArray) 0) := ⟨hi⟩
  clear HB
  have HB := n2_
  have HX := n3_
  clear n2_ n3_
  clear hi hb
  go_wp2_with fail
  have hbs_ := below_size HB.out
  refine (scan_Scanner_Write.calls kk g _ 0 (s.extract 0 m) _ _ _ w _ HX.out HB.out F1.out).mono ?_
  rintro e w4 ⟨va_, rfl, ho, hi, hb, hk⟩
  have n4_ : Aside0 (Below w.heap.size w w4) := ⟨hb⟩
  have n5_ : Aside0 (IsS58 w w4 g l1 b1) := ⟨hi⟩
  clear HB HX
  have HB := n4_
  have HX := n5_
  clear n4_ n5_
  clear hi hb hk ho
  clear hbs_
  clear F1
  go_wp2_with fail
  refine (scan_Scanner_Waits.calls g _ _ _ _ _ w _ HX.out HB.out rfl).mono ?_
  rintro e w5 ⟨rfl, hi, hb, hk⟩
  have n6_ : Aside0 (Below w.heap.size w w5) := ⟨hb⟩
  have n7_ : Aside0 (IsS58 w w5 g l1 b1) := ⟨hi⟩
  clear HB HX
  have HB := n6_
  have HX := n7_
  clear n6_ n7_
  clear hi hb hk
  go_wp2_with fail
  refine (scan_Scanner_Bad.calls g _ _ _ _ _ w _ HX.out HB.out rfl).mono ?_
  rintro e w6 ⟨rfl, hi, hb, hk⟩
  have n8_ : Aside0 (Below w.heap.size w w6) := ⟨hb⟩
  have n9_ : Aside0 (IsS58 w w6 g l1 b1) := ⟨hi⟩
  clear HB HX
  have HB := n8_
  have HX := n9_
  clear n8_ n9_
  clear hi hb hk
  go_wp2_with fail
  obtain ⟨hp0, hp1, hp2⟩ := HP.out
  refine (load_ok kk l1 b1 _ _ _ w6 _ (Below.refl _ _) F2.out hp0 hp1 hp2).mono ?_
  rintro e w7 ⟨gy, rfl, hi, -, hb⟩
  obtain ⟨hi, hny⟩ := new_st HB.out HX.out hi
  have n10_ : Aside0 (Below w.heap.size w w7) := ⟨below_step HB.out hb⟩
  have n11_ : Aside0 (IsS58 w w7 g l1 b1) := ⟨IsS58.below HX.out hb⟩
  have n12_ : Aside0 (IsS58 w w7 gy l1 b1) := ⟨hi⟩
  clear HB HX
  have HB := n10_
  have HX := n11_
  have HY := n12_
  clear n10_ n11_ n12_
  clear hi hb hp0 hp1 hp2 HP F2
  go_upto_region 11 with (go_at_call 12; (with_reducible refine (num_calls 0 _).mono ?_); rintro e w5_ ⟨rfl, rfl⟩)
  refine start_ (n := 26) (S := fun w' => True) (ds := []) #[false, false, false, false, false, false, false, false, false, false, false, false, false, false, false, false, false, false, false, false, false, false, false, false, false, false] (by kernel_rfl) rfl rfl (trivial) (fun hHeld => ?_)
  refine with_tabW tab6_11 bits6_11 (fun HT_ HW_ => ?_)
  have hbd := below_drew1 (Below.refl w7.heap.size w7)
  generalize w7.drew = wd13 at hbd hHeld ⊢
  have n14_ : Aside0 (Below w.heap.size w wd13) := ⟨below_step HB.out hbd⟩
  have n15_ : Aside0 (IsS58 w wd13 g l1 b1) := ⟨IsS58.below HX.out hbd⟩
  have n16_ : Aside0 (IsS58 w wd13 gy l1 b1) := ⟨IsS58.below HY.out hbd⟩
  clear HB HX HY
  have HB := n14_
  have HX := n15_
  have HY := n16_
  clear n14_ n15_ n16_
  clear hbd
  refine pure_ (i := 0) (N := some 44) (v := ?_) (a' := ?_) #[true, false, false, false, false, false, false, false, false, false, false, false, false, false, false, false, false, false, false, false, false, false, false, false, false, false] rfl rfl (any_of HT_.out (by kernel_rfl)) (fun _ _ _ h => h) (Or.inl ⟨by rfl, ?_⟩) ?_ ?_
  rotate_left
  · intro w'
    go_simp
    with_reducible rfl
  rotate_left
  · simp only [Act.put, List.setIfInBounds_toArray, List.set_cons_zero, List.set_cons_succ, i64_w, i32_w]
    rfl
  refine pure_ (i := 1) (N := some 45) (v := ?_) (a' := ?_) #[true, true, false, false, false, false, false, false, false, false, false, false, false, false, false, false, false, false, false, false, false, false, false, false, false, false] rfl rfl (any_of HT_.out (by kernel_rfl)) (fun _ _ _ h => h) (Or.inl ⟨by rfl, ?_⟩) ?_ ?_
  rotate_left
  · intro w'
    go_simp
    with_reducible rfl
  rotate_left
  · simp only [Act.put, List.setIfInBounds_toArray, List.set_cons_zero, List.set_cons_succ, i64_w, i32_w]
    rfl
  refine pure_ (i := 2) (N := some 46) (v := ?_) (a' := ?_) #[true, true, true, false, false, false, false, false, false, false, false, false, false, false, false, false, false, false, false, false, false, false, false, false, false, false] rfl rfl (any_of HT_.out (by kernel_rfl)) (fun _ _ _ h => h) (Or.inl ⟨by rfl, ?_⟩) ?_ ?_
  rotate_left
  · intro w'
    go_simp
    with_reducible rfl
  rotate_left
  · simp only [Act.put, List.setIfInBounds_toArray, List.set_cons_zero, List.set_cons_succ, i64_w, i32_w]
    rfl
  refine pure_ (i := 3) (N := some 47) (v := ?_) (a' := ?_) #[true, true, true, true, false, false, false, false, false, false, false, false, false, false, false, false, false, false, false, false, false, false, false, false, false, false] rfl rfl (any_of HT_.out (by kernel_rfl)) (fun _ _ _ h => h) (Or.inl ⟨by rfl, ?_⟩) ?_ ?_
  rotate_left
  · intro w'
    go_simp
    with_reducible rfl
  rotate_left
  · simp only [Act.put, List.setIfInBounds_toArray, List.set_cons_zero, List.set_cons_succ, i64_w, i32_w]
    rfl
  refine pure_ (i := 5) (N := some 49) (v := ?_) (a' := ?_) #[true, true, true, true, false, true, false, false, false, false, false, false, false, false, false, false, false, false, false, false, false, false, false, false, false, false] rfl rfl (any_of HT_.out (by kernel_rfl)) (fun _ _ _ h => h) (Or.inl ⟨by rfl, ?_⟩) ?_ ?_
  rotate_left
  · intro w'
    go_simp
    with_reducible rfl
  rotate_left
  · simp only [Act.put, List.setIfInBounds_toArray, List.set_cons_zero, List.set_cons_succ, i64_w, i32_w]
    rfl
  refine pure_ (i := 6) (N := some 50) (v := ?_) (a' := ?_) #[true, true, true, true, false, true, true, false, false, false, false, false, false, false, false, false, false, false, false, false, false, false, false, false, false, false] rfl rfl (any_of HT_.out (by kernel_rfl)) (fun _ _ _ h => h) (Or.inl ⟨by rfl, ?_⟩) ?_ ?_
  rotate_left
  · intro w'
    go_simp
    with_reducible rfl
  rotate_left
  · simp only [Act.put, List.setIfInBounds_toArray, List.set_cons_zero, List.set_cons_succ, i64_w, i32_w]
    rfl
  refine pure_ (i := 7) (N := some 51) (v := ?_) (a' := ?_) #[true, true, true, true, false, true, true, true, false, false, false, false, false, false, false, false, false, false, false, false, false, false, false, false, false, false] rfl rfl (any_of HT_.out (by kernel_rfl)) (fun _ _ _ h => h) (Or.inl ⟨by rfl, ?_⟩) ?_ ?_
  rotate_left
  · intro w'
    go_simp
    with_reducible rfl
  rotate_left
  · simp only [Act.put, List.setIfInBounds_toArray, List.set_cons_zero, List.set_cons_succ, i64_w, i32_w]
    rfl
  refine pure_ (i := 8) (N := some 52) (v := ?_) (a' := ?_) #[true, true, true, true, false, true, true, true, true, false, false, false, false, false, false, false, false, false, false, false, false, false, false, false, false, false] rfl rfl (any_of HT_.out (by kernel_rfl)) (fun _ _ _ h => h) (Or.inl ⟨by rfl, ?_⟩) ?_ ?_
  rotate_left
  · intro w'
    go_simp
    with_reducible rfl
  rotate_left
  · simp only [Act.put, List.setIfInBounds_toArray, List.set_cons_zero, List.set_cons_succ, i64_w, i32_w]
    rfl
  refine one_ (i := 4) (N := some 48) #[true, true, true, true, true, true, true, true, true, false, false, false, false, false, false, false, false, false, false, false, false, false, false, false, false, false] rfl rfl (one_of HT_.out (by kernel_rfl)) (by decide) (fun K hK => ?_)
  have hbs_ := below_size HB.out
  refine goes_ Try.func13 (by kernel_rfl) rfl #[.pointer (some ⟨g, 0, none⟩), .string (s.extract m s.size)] (by rfl) rfl rfl (by (try simp only [List.map_toArray, List.map_cons, List.map_nil]); first | done | rfl) ?_
  with_reducible refine (scan_Scanner_Write.calls kk g _ b1 (s.extract m s.size) _ _ _ w _ HX.out HB.out F3.out).mono ?_
  rintro e wv17 ⟨va_, rfl, ho, hi, hb, hk⟩
  refine ⟨_, rfl, ?_⟩
  have n18_ : Aside0 (Below w.heap.size w wv17) := ⟨hb⟩
  have n19_ : Aside0 (IsS58 w wv17 g l2 b2) := ⟨hi⟩
  have n20_ : Aside0 (IsS58 w wv17 gy l1 b1) := ⟨st_keep HY.out hk hny⟩
  have n21_ : Aside0 (Kd.R k49 49 wv17 w.heap.size (fun _ => True) va_ o2) := ⟨Kd.R_lower ho hbs_⟩
  clear HB HX HY
  have HB := n18_
  have HX := n19_
  have HY := n20_
  have RA := n21_
  clear n18_ n19_ n20_ n21_
  clear hi hb hk ho
  obtain ⟨raA, raC, rfl⟩ := Kd.R_slice RA.out
  clear hbs_
  refine hK.out _ _ (trivial) (fun hHeld => ?_)
  clear hK K
  refine norm_ (a' := ?_) ?_ ?_
  rotate_left
  · show Act.put _ (some 48) _ = _
    simp only [Act.put, List.setIfInBounds_toArray, List.set_cons_zero, List.set_cons_succ, i64_w, i32_w]
    rfl
  refine one_ (i := 9) (N := some 53) #[true, true, true, true, true, true, true, true, true, true, false, false, false, false, false, false, false, false, false, false, false, false, false, false, false, false] rfl rfl (one_of HT_.out (by kernel_rfl)) (by decide) (fun K hK => ?_)
  have hbs_ := below_size HB.out
  refine goes_ Try.func13 (by kernel_rfl) rfl #[.pointer (some ⟨gy, 0, none⟩), .string (s.extract m s.size)] (by rfl) rfl rfl (by (try simp only [List.map_toArray, List.map_cons, List.map_nil]); first | done | rfl) ?_
  with_reducible refine (scan_Scanner_Write.calls kk gy _ b1 (s.extract m s.size) _ _ _ w _ HY.out HB.out F3.out).mono ?_
  rintro e wv22 ⟨va_, rfl, ho, hi, hb, hk⟩
  refine ⟨_, rfl, ?_⟩
  have n23_ : Aside0 (Below w.heap.size w wv22) := ⟨hb⟩
  have n24_ : Aside0 (IsS58 w wv22 g l2 b2) := ⟨st_keep HX.out hk hny.symm⟩
  have n25_ : Aside0 (IsS58 w wv22 gy l2 b2) := ⟨hi⟩
  have n26_ : Aside0 (Kd.R k49 49 wv22 w.heap.size (fun _ => True) (.slice raA o2.length raC) o2) := ⟨rw_keep RA.out HY.out hk⟩
  have n27_ : Aside0 (Kd.R k49 49 wv22 w.heap.size (fun _ => True) va_ o2) := ⟨Kd.R_lower ho hbs_⟩
  clear HB HX HY RA
  have HB := n23_
  have HX := n24_
  have HY := n25_
  have RA := n26_
  have RB := n27_
  clear n23_ n24_ n25_ n26_ n27_
  clear hi hb hk ho
  obtain ⟨rbA, rbC, rfl⟩ := Kd.R_slice RB.out
  clear hbs_
  refine hK.out _ _ (trivial) (fun hHeld => ?_)
  clear hK K
  refine norm_ (a' := ?_) ?_ ?_
  rotate_left
  · show Act.put _ (some 53) _ = _
    simp only [Act.put, List.setIfInBounds_toArray, List.set_cons_zero, List.set_cons_succ, i64_w, i32_w]
    rfl
  refine one_ (i := 10) (N := some 54) #[true, true, true, true, true, true, true, true, true, true, true, false, false, false, false, false, false, false, false, false, false, false, false, false, false, false] rfl rfl (one_of HT_.out (by kernel_rfl)) (by decide) (fun K hK => ?_)
  obtain ⟨_, hc0, hC0⟩ := Kd.R_reads' RA.out
  obtain ⟨_, hc1, hC1⟩ := Kd.R_reads' RB.out
  refine goes_ Try.func15 (by kernel_rfl) rfl #[.slice raA o2.length raC, .slice rbA o2.length rbC] (by rfl) rfl rfl (by (try simp only [List.map_toArray, List.map_cons, List.map_nil]); first | done | rfl) ?_
  with_reducible refine (same_calls kk _ _ o2 _ _ o2 true _ hC0 hc0 hC1 hc1 F4.out).mono ?_
  rintro e ws28 ⟨rfl, hb⟩
  refine ⟨_, rfl, ?_⟩
  clear hc0 hC0 hc1 hC1
  have n29_ : Aside0 (Below w.heap.size w ws28) := ⟨below_step HB.out hb⟩
  have n30_ : Aside0 (IsS58 w ws28 g l2 b2) := ⟨IsS58.below HX.out hb⟩
  have n31_ : Aside0 (IsS58 w ws28 gy l2 b2) := ⟨IsS58.below HY.out hb⟩
  have n32_ : Aside0 (Kd.R k49 49 ws28 w.heap.size (fun _ => True) (.slice raA o2.length raC) o2) := ⟨Kd.R_below RA.out hb⟩
  have n33_ : Aside0 (Kd.R k49 49 ws28 w.heap.size (fun _ => True) (.slice rbA o2.length rbC) o2) := ⟨Kd.R_below RB.out hb⟩
  clear HB HX HY RA RB
  have HB := n29_
  have HX := n30_
  have HY := n31_
  have RA := n32_
  have RB := n33_
  clear n29_ n30_ n31_ n32_ n33_
  clear hb
  refine hK.out _ _ (trivial) (fun hHeld => ?_)
  clear hK K
  refine norm_ (a' := ?_) ?_ ?_
  rotate_left
  · show Act.put _ (some 54) _ = _
    simp only [Act.put, List.setIfInBounds_toArray, List.set_cons_zero, List.set_cons_succ, i64_w, i32_w]
    rfl
  clear RA RB
  refine pure_ (i := 11) (N := some 55) (v := ?_) (a' := ?_) #[true, true, true, true, true, true, true, true, true, true, true, true, false, false, false, false, false, false, false, false, false, false, false, false, false, false] rfl rfl (any_of HT_.out (by kernel_rfl)) (fun _ _ _ h => h) (Or.inl ⟨by rfl, ?_⟩) ?_ ?_
  rotate_left
  · intro w'
    go_simp
    with_reducible rfl
  rotate_left
  · simp only [Act.put, List.setIfInBounds_toArray, List.set_cons_zero, List.set_cons_succ, i64_w, i32_w]
    rfl
  refine pure_ (i := 12) (N := some 56) (v := ?_) (a' := ?_) #[true, true, true, true, true, true, true, true, true, true, true, true, true, false, false, false, false, false, false, false, false, false, false, false, false, false] rfl rfl (any_of HT_.out (by kernel_rfl)) (fun _ _ _ h => h) (Or.inl ⟨by rfl, ?_⟩) ?_ ?_
  rotate_left
  · intro w'
    go_simp
    with_reducible rfl
  rotate_left
  · simp only [Act.put, List.setIfInBounds_toArray, List.set_cons_zero, List.set_cons_succ, i64_w, i32_w]
    rfl
  refine pure_ (i := 13) (N := some 57) (v := ?_) (a' := ?_) #[true, true, true, true, true, true, true, true, true, true, true, true, true, true, false, false, false, false, false, false, false, false, false, false, false, false] rfl rfl (any_of HT_.out (by kernel_rfl)) (fun _ _ _ h => h) (Or.inl ⟨by rfl, ?_⟩) ?_ ?_
  rotate_left
  · intro w'
    go_simp
    with_reducible rfl
  rotate_left
  · simp only [Act.put, List.setIfInBounds_toArray, List.set_cons_zero, List.set_cons_succ, i64_w, i32_w]
    rfl
  refine pure_ (i := 15) (N := some 59) (v := ?_) (a' := ?_) #[true, true, true, true, true, true, true, true, true, true, true, true, true, true, false, true, false, false, false, false, false, false, false, false, false, false] rfl rfl (any_of HT_.out (by kernel_rfl)) (fun _ _ _ h => h) (Or.inl ⟨by rfl, ?_⟩) ?_ ?_
  rotate_left
  · intro w'
    go_simp
    with_reducible rfl
  rotate_left
  · simp only [Act.put, List.setIfInBounds_toArray, List.set_cons_zero, List.set_cons_succ, i64_w, i32_w]
    rfl
  refine one_ (i := 14) (N := some 58) #[true, true, true, true, true, true, true, true, true, true, true, true, true, true, true, true, false, false, false, false, false, false, false, false, false, false] rfl rfl (one_of HT_.out (by kernel_rfl)) (by decide) (fun K hK => ?_)
  have hbs_ := below_size HB.out
  refine goes_ Try.func16 (by kernel_rfl) rfl #[.pointer (some ⟨g, 0, none⟩)] (by rfl) rfl rfl (by (try simp only [List.map_toArray, List.map_cons, List.map_nil]); first | done | rfl) ?_
  with_reducible refine (scan_Scanner_Waits.calls g _ _ _ _ _ w _ HX.out HB.out rfl).mono ?_
  rintro e wv34 ⟨rfl, hi, hb, hk⟩
  refine ⟨_, rfl, ?_⟩
  have n35_ : Aside0 (Below w.heap.size w wv34) := ⟨hb⟩
  have n36_ : Aside0 (IsS58 w wv34 g l2 b2) := ⟨hi⟩
  have n37_ : Aside0 (IsS58 w wv34 gy l2 b2) := ⟨st_keep HY.out hk hny⟩
  clear HB HX HY
  have HB := n35_
  have HX := n36_
  have HY := n37_
  clear n35_ n36_ n37_
  clear hi hb hk
  clear hbs_
  refine hK.out _ _ (trivial) (fun hHeld => ?_)
  clear hK K
  refine norm_ (a' := ?_) ?_ ?_
  rotate_left
  · show Act.put _ (some 58) _ = _
    simp only [Act.put, List.setIfInBounds_toArray, List.set_cons_zero, List.set_cons_succ, i64_w, i32_w]
    rfl
  refine one_ (i := 16) (N := some 60) #[true, true, true, true, true, true, true, true, true, true, true, true, true, true, true, true, true, false, false, false, false, false, false, false, false, false] rfl rfl (one_of HT_.out (by kernel_rfl)) (by decide) (fun K hK => ?_)
  have hbs_ := below_size HB.out
  refine goes_ Try.func16 (by kernel_rfl) rfl #[.pointer (some ⟨gy, 0, none⟩)] (by rfl) rfl rfl (by (try simp only [List.map_toArray, List.map_cons, List.map_nil]); first | done | rfl) ?_
  with_reducible refine (scan_Scanner_Waits.calls gy _ _ _ _ _ w _ HY.out HB.out rfl).mono ?_
  rintro e wv38 ⟨rfl, hi, hb, hk⟩
  refine ⟨_, rfl, ?_⟩
  have n39_ : Aside0 (Below w.heap.size w wv38) := ⟨hb⟩
  have n40_ : Aside0 (IsS58 w wv38 g l2 b2) := ⟨st_keep HX.out hk hny.symm⟩
  have n41_ : Aside0 (IsS58 w wv38 gy l2 b2) := ⟨hi⟩
  clear HB HX HY
  have HB := n39_
  have HX := n40_
  have HY := n41_
  clear n39_ n40_ n41_
  clear hi hb hk
  clear hbs_
  refine hK.out _ _ (trivial) (fun hHeld => ?_)
  clear hK K
  refine norm_ (a' := ?_) ?_ ?_
  rotate_left
  · show Act.put _ (some 60) _ = _
    simp only [Act.put, List.setIfInBounds_toArray, List.set_cons_zero, List.set_cons_succ, i64_w, i32_w]
    rfl
  refine pure_ (i := 17) (N := some 61) (v := ?_) (a' := ?_) #[true, true, true, true, true, true, true, true, true, true, true, true, true, true, true, true, true, true, false, false, false, false, false, false, false, false] rfl rfl (any_of HT_.out (by kernel_rfl)) (fun _ _ _ h => h) (Or.inl ⟨by rfl, ?_⟩) ?_ ?_
  rotate_left
  · intro w'
    go_simp
    with_reducible rfl
  rotate_left
  · simp only [Act.put, List.setIfInBounds_toArray, List.set_cons_zero, List.set_cons_succ, i64_w, i32_w]
    rfl
  refine pure_ (i := 18) (N := some 62) (v := ?_) (a' := ?_) #[true, true, true, true, true, true, true, true, true, true, true, true, true, true, true, true, true, true, true, false, false, false, false, false, false, false] rfl rfl (any_of HT_.out (by kernel_rfl)) (fun _ _ _ h => h) (Or.inl ⟨by rfl, ?_⟩) ?_ ?_
  rotate_left
  · intro w'
    go_simp
    with_reducible rfl
  rotate_left
  · simp only [Act.put, List.setIfInBounds_toArray, List.set_cons_zero, List.set_cons_succ, i64_w, i32_w]
    rfl
  refine pure_ (i := 19) (N := some 63) (v := ?_) (a' := ?_) #[true, true, true, true, true, true, true, true, true, true, true, true, true, true, true, true, true, true, true, true, false, false, false, false, false, false] rfl rfl (any_of HT_.out (by kernel_rfl)) (fun _ _ _ h => h) (Or.inl ⟨by rfl, ?_⟩) ?_ ?_
  rotate_left
  · intro w'
    go_simp
    with_reducible rfl
  rotate_left
  · simp only [Act.put, List.setIfInBounds_toArray, List.set_cons_zero, List.set_cons_succ, i64_w, i32_w]
    rfl
  refine pure_ (i := 20) (N := some 64) (v := ?_) (a' := ?_) #[true, true, true, true, true, true, true, true, true, true, true, true, true, true, true, true, true, true, true, true, true, false, false, false, false, false] rfl rfl (any_of HT_.out (by kernel_rfl)) (fun _ _ _ h => h) (Or.inl ⟨by rfl, ?_⟩) ?_ ?_
  rotate_left
  · intro w'
    go_simp
    with_reducible rfl
  rotate_left
  · simp only [Act.put, List.setIfInBounds_toArray, List.set_cons_zero, List.set_cons_succ, i64_w, i32_w]
    rfl
  refine pure_ (i := 22) (N := some 66) (v := ?_) (a' := ?_) #[true, true, true, true, true, true, true, true, true, true, true, true, true, true, true, true, true, true, true, true, true, false, true, false, false, false] rfl rfl (any_of HT_.out (by kernel_rfl)) (fun _ _ _ h => h) (Or.inl ⟨by rfl, ?_⟩) ?_ ?_
  rotate_left
  · intro w'
    go_simp
    with_reducible rfl
  rotate_left
  · simp only [Act.put, List.setIfInBounds_toArray, List.set_cons_zero, List.set_cons_succ, i64_w, i32_w]
    rfl
  refine one_ (i := 21) (N := some 65) #[true, true, true, true, true, true, true, true, true, true, true, true, true, true, true, true, true, true, true, true, true, true, true, false, false, false] rfl rfl (one_of HT_.out (by kernel_rfl)) (by decide) (fun K hK => ?_)
  have hbs_ := below_size HB.out
  refine goes_ Try.func17 (by kernel_rfl) rfl #[.pointer (some ⟨g, 0, none⟩)] (by rfl) rfl rfl (by (try simp only [List.map_toArray, List.map_cons, List.map_nil]); first | done | rfl) ?_
  with_reducible refine (scan_Scanner_Bad.calls g _ _ _ _ _ w _ HX.out HB.out rfl).mono ?_
  rintro e wv42 ⟨rfl, hi, hb, hk⟩
  refine ⟨_, rfl, ?_⟩
  have n43_ : Aside0 (Below w.heap.size w wv42) := ⟨hb⟩
  have n44_ : Aside0 (IsS58 w wv42 g l2 b2) := ⟨hi⟩
  have n45_ : Aside0 (IsS58 w wv42 gy l2 b2) := ⟨st_keep HY.out hk hny⟩
  clear HB HX HY
  have HB := n43_
  have HX := n44_
  have HY := n45_
  clear n43_ n44_ n45_
  clear hi hb hk
  clear hbs_
  refine hK.out _ _ (trivial) (fun hHeld => ?_)
  clear hK K
  refine norm_ (a' := ?_) ?_ ?_
  rotate_left
  · show Act.put _ (some 65) _ = _
    simp only [Act.put, List.setIfInBounds_toArray, List.set_cons_zero, List.set_cons_succ, i64_w, i32_w]
    rfl
  refine one_ (i := 23) (N := some 67) #[true, true, true, true, true, true, true, true, true, true, true, true, true, true, true, true, true, true, true, true, true, true, true, true, false, false] rfl rfl (one_of HT_.out (by kernel_rfl)) (by decide) (fun K hK => ?_)
  have hbs_ := below_size HB.out
  refine goes_ Try.func17 (by kernel_rfl) rfl #[.pointer (some ⟨gy, 0, none⟩)] (by rfl) rfl rfl (by (try simp only [List.map_toArray, List.map_cons, List.map_nil]); first | done | rfl) ?_
  with_reducible refine (scan_Scanner_Bad.calls gy _ _ _ _ _ w _ HY.out HB.out rfl).mono ?_
  rintro e wv46 ⟨rfl, hi, hb, hk⟩
  refine ⟨_, rfl, ?_⟩
  have n47_ : Aside0 (Below w.heap.size w wv46) := ⟨hb⟩
  have n48_ : Aside0 (IsS58 w wv46 g l2 b2) := ⟨st_keep HX.out hk hny.symm⟩
  have n49_ : Aside0 (IsS58 w wv46 gy l2 b2) := ⟨hi⟩
  clear HB HX HY
  have HB := n47_
  have HX := n48_
  have HY := n49_
  clear n47_ n48_ n49_
  clear hi hb hk
  clear hbs_
  refine hK.out _ _ (trivial) (fun hHeld => ?_)
  clear hK K
  refine norm_ (a' := ?_) ?_ ?_
  rotate_left
  · show Act.put _ (some 67) _ = _
    simp only [Act.put, List.setIfInBounds_toArray, List.set_cons_zero, List.set_cons_succ, i64_w, i32_w]
    rfl
  refine pure_ (i := 24) (N := some 68) (v := ?_) (a' := ?_) #[true, true, true, true, true, true, true, true, true, true, true, true, true, true, true, true, true, true, true, true, true, true, true, true, true, false] rfl rfl (any_of HT_.out (by kernel_rfl)) (fun _ _ _ h => h) (Or.inl ⟨by rfl, ?_⟩) ?_ ?_
  rotate_left
  · intro w'
    go_simp
    with_reducible rfl
  rotate_left
  · simp only [Act.put, List.setIfInBounds_toArray, List.set_cons_zero, List.set_cons_succ, i64_w, i32_w]
    rfl
  refine pure_ (i := 25) (N := some 69) (v := ?_) (a' := ?_) #[true, true, true, true, true, true, true, true, true, true, true, true, true, true, true, true, true, true, true, true, true, true, true, true, true, true] rfl rfl (any_of HT_.out (by kernel_rfl)) (fun _ _ _ h => h) (Or.inl ⟨by rfl, ?_⟩) ?_ ?_
  rotate_left
  · intro w'
    go_simp
    with_reducible rfl
  rotate_left
  · simp only [Act.put, List.setIfInBounds_toArray, List.set_cons_zero, List.set_cons_succ, i64_w, i32_w]
    rfl
  refine done_ (done_of HT_.out (by kernel_rfl)) ?_
  go_wp2_with fail
  have hbs_ := below_size HB.out
  refine (scan_Scanner_Write.calls kk g _ b2 rest _ _ _ w _ HX.out HB.out F5.out).mono ?_
  rintro e w21 ⟨va_, rfl, ho, hi, hb, hk⟩
  have n50_ : Aside0 (Below w.heap.size w w21) := ⟨hb⟩
  have n51_ : Aside0 (IsS58 w w21 g l3 b3) := ⟨hi⟩
  have n52_ : Aside0 (IsS58 w w21 gy l2 b2) := ⟨st_keep HY.out hk hny⟩
  have n53_ : Aside0 (Kd.R k49 49 w21 w.heap.size (fun _ => True) va_ o3) := ⟨Kd.R_lower ho hbs_⟩
  clear HB HX HY
  have HB := n50_
  have HX := n51_
  have HY := n52_
  have RC := n53_
  clear n50_ n51_ n52_ n53_
  clear hi hb hk ho
  obtain ⟨rcA, rcC, rfl⟩ := Kd.R_slice RC.out
  clear hbs_
  go_wp2_with fail
  have hbs_ := below_size HB.out
  refine (scan_Scanner_Write.calls kk gy _ b2 rest _ _ _ w _ HY.out HB.out F5.out).mono ?_
  rintro e w22 ⟨va_, rfl, ho, hi, hb, hk⟩
  have n54_ : Aside0 (Below w.heap.size w w22) := ⟨hb⟩
  have n55_ : Aside0 (IsS58 w w22 g l3 b3) := ⟨st_keep HX.out hk hny.symm⟩
  have n56_ : Aside0 (IsS58 w w22 gy l3 b3) := ⟨hi⟩
  have n57_ : Aside0 (Kd.R k49 49 w22 w.heap.size (fun _ => True) (.slice rcA o3.length rcC) o3) := ⟨rw_keep RC.out HY.out hk⟩
  have n58_ : Aside0 (Kd.R k49 49 w22 w.heap.size (fun _ => True) va_ o3) := ⟨Kd.R_lower ho hbs_⟩
  clear HB HX HY RC
  have HB := n54_
  have HX := n55_
  have HY := n56_
  have RC := n57_
  have RD := n58_
  clear n54_ n55_ n56_ n57_ n58_
  clear hi hb hk ho
  obtain ⟨rdA, rdC, rfl⟩ := Kd.R_slice RD.out
  clear hbs_
  obtain ⟨-, hc0, hC0⟩ := Kd.R_reads' RC.out
  obtain ⟨-, hc1, hC1⟩ := Kd.R_reads' RD.out
  go_wp2_with fail
  refine (same_calls kk _ _ o3 _ _ o3 true _ hC0 hc0 hC1 hc1 F6.out).mono ?_
  rintro e w23 ⟨rfl, hb⟩
  clear hc0 hC0 hc1 hC1
  have n59_ : Aside0 (Below w.heap.size w w23) := ⟨below_step HB.out hb⟩
  have n60_ : Aside0 (IsS58 w w23 g l3 b3) := ⟨IsS58.below HX.out hb⟩
  have n61_ : Aside0 (IsS58 w w23 gy l3 b3) := ⟨IsS58.below HY.out hb⟩
  have n62_ : Aside0 (Kd.R k49 49 w23 w.heap.size (fun _ => True) (.slice rcA o3.length rcC) o3) := ⟨Kd.R_below RC.out hb⟩
  have n63_ : Aside0 (Kd.R k49 49 w23 w.heap.size (fun _ => True) (.slice rdA o3.length rdC) o3) := ⟨Kd.R_below RD.out hb⟩
  clear HB HX HY RC RD
  have HB := n59_
  have HX := n60_
  have HY := n61_
  have RC := n62_
  have RD := n63_
  clear n59_ n60_ n61_ n62_ n63_
  clear hb
  clear RC RD
  go_wp2_with fail
  have hbs_ := below_size HB.out
  refine (scan_Scanner_Close.calls kk g _ b3 _ _ _ w _ HX.out HB.out F7.out).mono ?_
  rintro e w24 ⟨va_, rfl, ho, hi, hb, hk⟩
  have n64_ : Aside0 (Below w.heap.size w w24) := ⟨hb⟩
  have n65_ : Aside0 (IsS58 w w24 g l4 b4) := ⟨hi⟩
  have n66_ : Aside0 (IsS58 w w24 gy l3 b3) := ⟨st_keep HY.out hk hny⟩
  have n67_ : Aside0 (Kd.R k49 49 w24 w.heap.size (fun _ => True) va_ o4) := ⟨Kd.R_lower ho hbs_⟩
  clear HB HX HY
  have HB := n64_
  have HX := n65_
  have HY := n66_
  have RE := n67_
  clear n64_ n65_ n66_ n67_
  clear hi hb hk ho
  obtain ⟨reA, reC, rfl⟩ := Kd.R_slice RE.out
  clear hbs_
  go_wp2_with fail
  have hbs_ := below_size HB.out
  refine (scan_Scanner_Close.calls kk gy _ b3 _ _ _ w _ HY.out HB.out F7.out).mono ?_
  rintro e w25 ⟨va_, rfl, ho, hi, hb, hk⟩
  have n68_ : Aside0 (Below w.heap.size w w25) := ⟨hb⟩
  have n69_ : Aside0 (IsS58 w w25 g l4 b4) := ⟨st_keep HX.out hk hny.symm⟩
  have n70_ : Aside0 (IsS58 w w25 gy l4 b4) := ⟨hi⟩
  have n71_ : Aside0 (Kd.R k49 49 w25 w.heap.size (fun _ => True) (.slice reA o4.length reC) o4) := ⟨rw_keep RE.out HY.out hk⟩
  have n72_ : Aside0 (Kd.R k49 49 w25 w.heap.size (fun _ => True) va_ o4) := ⟨Kd.R_lower ho hbs_⟩
  clear HB HX HY RE
  have HB := n68_
  have HX := n69_
  have HY := n70_
  have RE := n71_
  have RF := n72_
  clear n68_ n69_ n70_ n71_ n72_
  clear hi hb hk ho
  obtain ⟨rfA, rfC, rfl⟩ := Kd.R_slice RF.out
  clear hbs_
  obtain ⟨-, hc0, hC0⟩ := Kd.R_reads' RE.out
  obtain ⟨-, hc1, hC1⟩ := Kd.R_reads' RF.out
  go_wp2_with fail
  refine (same_calls kk _ _ o4 _ _ o4 true _ hC0 hc0 hC1 hc1 F8.out).mono ?_
  rintro e w26 ⟨rfl, hb⟩
  clear hc0 hC0 hc1 hC1
  have n73_ : Aside0 (Below w.heap.size w w26) := ⟨below_step HB.out hb⟩
  have n74_ : Aside0 (IsS58 w w26 g l4 b4) := ⟨IsS58.below HX.out hb⟩
  have n75_ : Aside0 (IsS58 w w26 gy l4 b4) := ⟨IsS58.below HY.out hb⟩
  have n76_ : Aside0 (Kd.R k49 49 w26 w.heap.size (fun _ => True) (.slice reA o4.length reC) o4) := ⟨Kd.R_below RE.out hb⟩
  have n77_ : Aside0 (Kd.R k49 49 w26 w.heap.size (fun _ => True) (.slice rfA o4.length rfC) o4) := ⟨Kd.R_below RF.out hb⟩
  clear HB HX HY RE RF
  have HB := n73_
  have HX := n74_
  have HY := n75_
  have RE := n76_
  have RF := n77_
  clear n73_ n74_ n75_ n76_ n77_
  clear hb
  go_wp2_with fail
  go_ret
  exact ⟨by first | rfl | (simp; done), HB.out⟩

end Go.Proofs.Ytmccgkbbgicglaa.ScanLoadsW
