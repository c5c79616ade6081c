/- The walk of the law Scans, from what its callees answer. No condition beyond those. -/
import Derived.Test.YtmccgkbbgicglaaScanAwakeR
import Derived.Test.YtmccgkbbgicglaaScanRefW
import Derived.Test.YtmccgkbbgicglaaQScanRefx12
import Derived.Test.YtmccgkbbgicglaaQScanRefx13a
namespace Go.Proofs.Ytmccgkbbgicglaa.ScansW
open Go.RowKit Go.Proofs.Ytmccgkbbgicglaa.QScanRef Go.Proofs.Ytmccgkbbgicglaa.ScanPureR Go.Proofs.Ytmccgkbbgicglaa.ScanAwakePureR Go.Proofs.Ytmccgkbbgicglaa.ScanLoadWR Go.Proofs.Ytmccgkbbgicglaa.ScanRefW Go.Proofs.YtmccgkbbgicglaaW.PrintWords Go.Proofs.YtmccgkbbgicglaaW.PrintLast Go.Proofs.YtmccgkbbgicglaaW.PrintMore
set_option linter.unusedVariables false
set_option linter.unusedSimpArgs false


def T3_12 : Bool × List (List Nat × List Nat) := (true, [([], []), ([], []), ([], []), ([1, 2], [1, 2]), ([3], [3]), ([0, 4], [0, 4]), ([], []), ([], []), ([], []), ([7, 8], [7, 8]), ([9], [9]), ([6, 10, 5], [6, 10]), ([5, 11, 0, 1, 2, 3, 4, 5], [5]), ([11, 12, 0, 1, 2, 3, 4, 5, 6, 7, 8, 9, 10, 11, 12], [11])])
def B3_12 : List Nat := [0, 0, 0, 6, 14, 31, 0, 0, 0, 384, 896, 2047, 4095, 8191]
theorem tab3_12 : rtab .any (opsOf Try.f3 12) = T3_12 := by kernel_rfl
theorem bits3_12 : waitsOk T3_12.2 B3_12 = true := by kernel_rfl
def T3_13 : Bool × List (List Nat × List Nat) := (true, [([], []), ([], []), ([0, 1], [0, 1]), ([2], [2]), ([3, 2], [3]), ([4], [4]), ([5, 4, 4], [4, 5]), ([4], [4]), ([7, 4], [4, 7]), ([8, 4], [4, 8]), ([9, 4], [4, 9]), ([6, 10, 4], [4, 6, 10]), ([4, 11], [4, 11]), ([12, 6], [12]), ([13], [13]), ([14, 13, 13], [13, 14]), ([13], [13]), ([16, 13], [13, 16]), ([17, 13], [13, 17]), ([18, 13], [13, 18]), ([15, 19, 13], [13, 15, 19]), ([13, 20], [13, 20])])
def B3_13 : List Nat := [0, 0, 3, 7, 15, 31, 63, 31, 159, 415, 927, 2047, 4095, 8191, 16383, 32767, 16383, 81919, 212991, 475135, 1048575, 2097151]
theorem tab3_13 : rtab .any (opsOf Try.f3 13) = T3_13 := by kernel_rfl
theorem bits3_13 : waitsOk T3_13.2 B3_13 = true := by kernel_rfl
def T3_16 : Bool × List (List Nat × List Nat) := (true, [([], []), ([0], [0]), ([1], [1]), ([2], [2]), ([2], [2]), ([2], [2]), ([4, 5, 2], [2, 4, 5]), ([6, 2], [2, 6]), ([3, 7, 2, 2], [2, 3, 7]), ([2], [2]), ([2], [2]), ([2], [2]), ([10, 11, 2], [2, 10, 11]), ([12, 2], [2, 12]), ([9, 13, 8, 2], [2, 9, 13]), ([8, 14, 14, 2], [2, 8, 14]), ([15, 2], [2, 15]), ([16, 15, 2], [2, 16]), ([17], [17]), ([18, 17, 17], [17, 18]), ([17], [17]), ([20, 17], [17, 20]), ([21, 17], [17, 21]), ([22, 17], [17, 22]), ([19, 23, 17], [17, 19, 23]), ([17, 24, 2], [2, 17, 24]), ([25, 19, 2], [2, 25]), ([26], [26]), ([27, 26, 26], [26, 27]), ([26], [26]), ([29, 26], [26, 29]), ([30, 26], [26, 30]), ([31, 26], [26, 31]), ([28, 32, 26], [26, 28, 32]), ([26, 33, 2], [2, 26, 33]), ([2, 34], [2, 34])])
def B3_16 : List Nat := [0, 1, 3, 7, 7, 7, 55, 119, 255, 7, 7, 7, 3079, 7175, 16383, 32767, 65535, 131071, 262143, 524287, 262143, 1310719, 3407871, 7602175, 16777215, 33554431, 67108863, 134217727, 268435455, 134217727, 671088639, 1744830463, 3892314111, 8589934591, 17179869183, 34359738367]
theorem tab3_16 : rtab .any (opsOf Try.f3 16) = T3_16 := by kernel_rfl
theorem bits3_16 : waitsOk T3_16.2 B3_16 = true := by kernel_rfl
set_option maxHeartbeats 20000000 in
set_option maxRecDepth 100000 in
theorem scans_ok (k1 : Nat) (A0 : Option Addr) (c0 : Nat) (parts : List ByteArray) (closes : Int) (waits : ByteArray) (bad : Int) (x1 : ByteArray) (q1_ e_ : Int) (P : ByteArray → Int → ByteArray → Int → Prop) (w : World) (hc0_ : parts.length ≤ c0)
    (AW : Aside0 (∀ w : World, Calls Try.prog 21 #[] w fun e w' => e = .returned (.bool true) ∧ Below w.heap.size w w'))
    (HC : Aside0 (Kd.C Kd.string w A0 parts.length parts)) (HLC : Aside0 (parts.length ≤ 4611686018427387904))
    (F1 : Aside0 (frame_Get.f k1 waits 0 = some (x1, q1_, e_))) (F2 : Aside0 (bourneref1_GetFrame.f k1 waits 0 = some (x1, q1_, e_)))
    (HP : Aside0 (0 ≤ bad ∧ bad ≤ 1073741823 ∧ (waits.toList = ([] : List UInt8) ∨ e_ = 801))) (P0 : Aside0 (P (⟨#[]⟩ : ByteArray) 0 waits bad))
    (PS : Aside0 (∀ lx bx ly by_ p, P lx bx ly by_ → p ∈ parts → ∃ kk o l b z, scan_Scanner_Write.f kk lx bx p = some (o, l, b) ∧ bourneref1_Scanner_Write.f kk lx bx p = some (o, l, b) ∧ bournelaw0_SameOps.f kk o o = some true ∧ bournelaw0_SpoilOps.f kk o = some z ∧
      ∃ oc, scan_Scanner_Close.f kk l b = some (oc, (⟨#[]⟩ : ByteArray), 0) ∧ bourneref1_Scanner_Close.f kk l b = some (oc, (⟨#[]⟩ : ByteArray), 0) ∧ bournelaw0_SameOps.f kk oc oc = some true ∧
      ∃ (o2 : List S49) (l2 : ByteArray) (b2 : Int), scan_Scanner_Write.f kk ly by_ p = some (o2, l2, b2) ∧ bourneref1_Scanner_Write.f kk ly by_ p = some (o2, l2, b2) ∧ bournelaw0_SameOps.f kk o2 o2 = some true ∧ P l b l2 b2 ∧ P (⟨#[]⟩ : ByteArray) 0 l2 b2)) :
    Calls Try.prog 3 #[.slice A0 parts.length c0, .int .i64 closes, .string waits, .int .i64 bad] w fun e w' => e = .returned (.bool true) ∧ Below w.heap.size w w' := by
  have HB := Aside0.mk (Below.refl w.heap.size w)
  go_enter Try.func3, Try.ntmps3
  go_wp2_with fail
  refine (scan_New.calls _ _ w _ HB.out rfl).mono ?_
  rintro e w2 ⟨g, rfl, hi, -, hb⟩
  have n1_ : Aside0 (Below w.heap.size w w2) := ⟨below_step HB.out hb⟩
  have n2_ : Aside0 (IsS58 w w2 g (⟨#[]⟩ : ByteArray) 0) := ⟨hi⟩
  clear HB
  have HB := n1_
  have HX := n2_
  clear n1_ n2_
  clear hi hb
  go_upto_region 5 with (fail)
  have hbd := below_alloc (Below.refl w2.heap.size w2) (.cells #[.string (⟨#[]⟩ : ByteArray), .int .i64 0] 27 (0, 0))
  have hnew : IsS27 w (w2.alloc (.cells #[.string (⟨#[]⟩ : ByteArray), .int .i64 0] 27 (0, 0))) w2.heap.size (⟨#[]⟩ : ByteArray) 0 := IsS27.new w w2 _ _ HB.out
  generalize hgr : w2.heap.size = gr at hnew ⊢
  generalize w2.alloc (.cells #[.string (⟨#[]⟩ : ByteArray), .int .i64 0] 27 (0, 0)) = w3 at hbd hnew ⊢
  have n3_ : Aside0 (Below w.heap.size w w3) := ⟨below_step HB.out hbd⟩
  have n4_ : Aside0 (IsS58 w w3 g (⟨#[]⟩ : ByteArray) 0) := ⟨IsS58.below HX.out hbd⟩
  have n5_ : Aside0 (IsS27 w w3 gr (⟨#[]⟩ : ByteArray) 0) := ⟨hnew⟩
  clear HB HX
  have HB := n3_
  have HX := n4_
  have HR := n5_
  clear n3_ n4_ n5_
  clear hbd hnew hgr
  obtain ⟨hp0, hp1, hp2⟩ := HP.out
  go_wp2_with fail
  refine (load_ok k1 waits bad _ _ _ w3 _ (Below.refl _ _) F1.out hp0 hp1 hp2).mono ?_
  rintro e w4 ⟨gy, rfl, hi, -, hb⟩
  obtain ⟨hi, hny⟩ := new_st HB.out HX.out hi
  have n6_ : Aside0 (Below w.heap.size w w4) := ⟨below_step HB.out hb⟩
  have n7_ : Aside0 (IsS58 w w4 g (⟨#[]⟩ : ByteArray) 0) := ⟨IsS58.below HX.out hb⟩
  have n8_ : Aside0 (IsS27 w w4 gr (⟨#[]⟩ : ByteArray) 0) := ⟨IsS27.below HR.out hb⟩
  have n9_ : Aside0 (IsS58 w w4 gy waits bad) := ⟨hi⟩
  clear HB HX HR
  have HB := n6_
  have HX := n7_
  have HR := n8_
  have HY := n9_
  clear n6_ n7_ n8_ n9_
  clear hi hb
  go_wp2_with fail
  refine (rload_ok k1 waits bad _ _ _ w4 _ (Below.refl _ _) F2.out hp0 hp1 hp2).mono ?_
  rintro e w5 ⟨gs, rfl, hi, -, hb⟩
  obtain ⟨hi, hns⟩ := new_rst HB.out HR.out hi
  have n10_ : Aside0 (Below w.heap.size w w5) := ⟨below_step HB.out hb⟩
  have n11_ : Aside0 (IsS58 w w5 g (⟨#[]⟩ : ByteArray) 0) := ⟨IsS58.below HX.out hb⟩
  have n12_ : Aside0 (IsS27 w w5 gr (⟨#[]⟩ : ByteArray) 0) := ⟨IsS27.below HR.out hb⟩
  have n13_ : Aside0 (IsS58 w w5 gy waits bad) := ⟨IsS58.below HY.out hb⟩
  have n14_ : Aside0 (IsS27 w w5 gs waits bad) := ⟨hi⟩
  clear HB HX HR HY
  have HB := n10_
  have HX := n11_
  have HR := n12_
  have HY := n13_
  have HS := n14_
  clear n10_ n11_ n12_ n13_ n14_
  clear hi hb hp0 hp1 hp2
  go_wp2_with (go_at_call 12; (with_reducible refine (num_calls 0 _).mono ?_); rintro e w5_ ⟨rfl, rfl⟩)
  go_loopg [15] 30 (fun kq v15 w' => ∃ (i : Nat) (lx : ByteArray) (bx : Int) (ly : ByteArray) (by_ : Int), v15 = .int .i64 (i : Int) ∧ Aside0 (i + kq = 30) ∧ Aside0 (P lx bx ly by_) ∧ Aside0 (Below w.heap.size w w') ∧ Aside0 (IsS58 w w' g lx bx) ∧ Aside0 (IsS27 w w' gr lx bx) ∧ Aside0 (IsS58 w w' gy ly by_) ∧ Aside0 (IsS27 w w' gs ly by_))
  case atStart => exact ⟨0, _, _, waits, bad, rfl, ⟨rfl⟩, P0, HB, HX, HR, HY, HS⟩
  case round =>
    clear HB HX HR HY HS
    obtain ⟨i, lx, bx, ly, by_, rfl, HI, HPP, HB, HX, HR, HY, HS⟩ := hrel
    have hlen := HLC.out
    by_cases hgo : i < parts.length ∧ i < 30
    · obtain ⟨g1, g2⟩ := hgo
      have q1 : decide ((i : Int) < (parts.length : Int)) = true := decide_eq_true (by omega)
      have q2 : decide ((i : Int) < (30 : Int)) = true := decide_eq_true (by omega)
      have q3 : (i : Int) < (parts.length : Int) := by omega
      have q4 : (i : Int) < (30 : Int) := by omega
      have hw2 : wrap64 ((i : Int) + 1) = ((i + 1 : Nat) : Int) := by rw [wrap64_id (by omega) (by omega)]; omega
      have HW2 := Aside0.mk hw2
      clear hw2
      obtain ⟨ad, ea, hx⟩ := Kd.at_string HC.out (i : Int) (by omega) q3
      cases ea
      have her : rdOf ByteArray.empty parts (i : Int) = parts[i] := by unfold rdOf; rw [Int.toNat_natCast, List.getD_eq_getElem?_getD, List.getElem?_eq_getElem g1]; rfl
      rw [her] at hx
      simp only [Int.toNat_natCast] at hx
      obtain ⟨kk, o, l, b, z, F3, F4, F5, F6, oc, C1, C2, C3, o2, l2, b2, Y1, Y2, Y3, PN, PC⟩ := PS.out lx bx ly by_ parts[i] HPP.out (List.getElem_mem g1)
      obtain ⟨p, hp⟩ : ∃ p, parts[i] = p := ⟨_, rfl⟩
      simp only [hp] at hx F3 F4 Y1 Y2
      clear her
      have F3_ := Aside0.mk F3
      clear F3
      have F4_ := Aside0.mk F4
      clear F4
      have F5_ := Aside0.mk F5
      clear F5
      have F6_ := Aside0.mk F6
      clear F6
      have C1_ := Aside0.mk C1
      clear C1
      have C2_ := Aside0.mk C2
      clear C2
      have C3_ := Aside0.mk C3
      clear C3
      have Y1_ := Aside0.mk Y1
      clear Y1
      have Y2_ := Aside0.mk Y2
      clear Y2
      have Y3_ := Aside0.mk Y3
      clear Y3
      have PN_ := Aside0.mk PN
      clear PN
      have PC_ := Aside0.mk PC
      clear PC
      have HXC := Aside0.mk hx
      have p1 : ((0 : Int) ≤ (i : Int)) = True := eq_true (by omega)
      have p2 := eq_true q3
      have p3 : (i < parts.length) = True := eq_true g1
      go_upto_region 12 with (fail)
      refine start_ (n := 14) (S := fun w' => w'.cell? (ad.add i) = some (.string p)) (ds := []) #[false, false, false, false, false, false, false, false, false, false, false, false, false, false] (by kernel_rfl) rfl rfl ((HB.out.cell (World.block_lt_of_cell? w _ HXC.out)).trans HXC.out) (fun hHeld => ?_)
      refine with_tabW tab3_12 bits3_12 (fun HT_ HW_ => ?_)
      have hbd := below_drew1 (Below.refl wr.heap.size wr)
      generalize wr.drew = wd15 at hbd hHeld ⊢
      have n16_ : Aside0 (Below w.heap.size w wd15) := ⟨below_step HB.out hbd⟩
      have n17_ : Aside0 (IsS58 w wd15 g lx bx) := ⟨IsS58.below HX.out hbd⟩
      have n18_ : Aside0 (IsS27 w wd15 gr lx bx) := ⟨IsS27.below HR.out hbd⟩
      have n19_ : Aside0 (IsS58 w wd15 gy ly by_) := ⟨IsS58.below HY.out hbd⟩
      have n20_ : Aside0 (IsS27 w wd15 gs ly by_) := ⟨IsS27.below HS.out hbd⟩
      clear HB HX HR HY HS
      have HB := n16_
      have HX := n17_
      have HR := n18_
      have HY := n19_
      have HS := n20_
      clear n16_ n17_ n18_ n19_ n20_
      clear hbd
      refine pure_ (i := 0) (N := some 56) (v := ?_) (a' := ?_) #[true, false, false, false, false, false, false, false, false, false, false, false, false, false] rfl rfl (any_of HT_.out (by kernel_rfl)) (fun _ _ _ h => h) (Or.inl ⟨by rfl, ?_⟩) ?_ ?_
      rotate_left
      · intro w'
        go_simp
        with_reducible rfl
      rotate_left
      · simp only [Act.put, List.setIfInBounds_toArray, List.set_cons_zero, List.set_cons_succ, i64_w, i32_w]
        rfl
      refine pure_ (i := 1) (N := some 57) (v := ?_) (a' := ?_) #[true, true, false, false, false, false, false, false, false, false, false, false, false, false] rfl rfl (any_of HT_.out (by kernel_rfl)) (fun _ _ _ h => h) (Or.inl ⟨by rfl, ?_⟩) ?_ ?_
      rotate_left
      · intro w'
        go_simp
        with_reducible rfl
      rotate_left
      · simp only [Act.put, List.setIfInBounds_toArray, List.set_cons_zero, List.set_cons_succ, i64_w, i32_w]
        rfl
      refine pure_ (i := 2) (N := some 58) (v := ?_) (a' := ?_) #[true, true, true, false, false, false, false, false, false, false, false, false, false, false] rfl rfl (any_of HT_.out (by kernel_rfl)) (fun _ _ _ h => h) (Or.inl ⟨by rfl, ?_⟩) ?_ ?_
      rotate_left
      · intro w'
        go_simp
        with_reducible rfl
      rotate_left
      · simp only [Act.put, List.setIfInBounds_toArray, List.set_cons_zero, List.set_cons_succ, i64_w, i32_w]
        rfl
      refine pure_ (i := 3) (N := some 59) (v := ?_) (a' := ?_) #[true, true, true, true, false, false, false, false, false, false, false, false, false, false] rfl rfl (any_of HT_.out (by kernel_rfl)) (fun _ _ _ h => h) (Or.inl ⟨by rfl, ?_⟩) ?_ ?_
      rotate_left
      · intro w'
        go_simp
        with_reducible rfl
      rotate_left
      · simp only [Act.put, List.setIfInBounds_toArray, List.set_cons_zero, List.set_cons_succ, i64_w, i32_w]
        rfl
      refine take_ (i := 4) (N := some 60) (v := ?_) (a' := ?_) #[true, true, true, true, true, false, false, false, false, false, false, false, false, false] rfl rfl (take_ofW HT_.out HW_.out (by kernel_rfl)) (fun _ _ _ h => h) (Or.inl ⟨by rfl, ?_⟩) hHeld ?_ ?_
      rotate_left
      · rintro w' s0_
        go_simp
        with_reducible rfl
      rotate_left
      · simp only [Act.put, List.setIfInBounds_toArray, List.set_cons_zero, List.set_cons_succ, i64_w, i32_w]
        rfl
      refine pure_ (i := 6) (N := some 62) (v := ?_) (a' := ?_) #[true, true, true, true, true, false, true, false, false, false, false, false, false, false] rfl rfl (any_of HT_.out (by kernel_rfl)) (fun _ _ _ h => h) (Or.inl ⟨by rfl, ?_⟩) ?_ ?_
      rotate_left
      · intro w'
        go_simp
        with_reducible rfl
      rotate_left
      · simp only [Act.put, List.setIfInBounds_toArray, List.set_cons_zero, List.set_cons_succ, i64_w, i32_w]
        rfl
      refine pure_ (i := 7) (N := some 63) (v := ?_) (a' := ?_) #[true, true, true, true, true, false, true, true, false, false, false, false, false, false] rfl rfl (any_of HT_.out (by kernel_rfl)) (fun _ _ _ h => h) (Or.inl ⟨by rfl, ?_⟩) ?_ ?_
      rotate_left
      · intro w'
        go_simp
        with_reducible rfl
      rotate_left
      · simp only [Act.put, List.setIfInBounds_toArray, List.set_cons_zero, List.set_cons_succ, i64_w, i32_w]
        rfl
      refine pure_ (i := 8) (N := some 64) (v := ?_) (a' := ?_) #[true, true, true, true, true, false, true, true, true, false, false, false, false, false] rfl rfl (any_of HT_.out (by kernel_rfl)) (fun _ _ _ h => h) (Or.inl ⟨by rfl, ?_⟩) ?_ ?_
      rotate_left
      · intro w'
        go_simp
        with_reducible rfl
      rotate_left
      · simp only [Act.put, List.setIfInBounds_toArray, List.set_cons_zero, List.set_cons_succ, i64_w, i32_w]
        rfl
      refine pure_ (i := 9) (N := some 65) (v := ?_) (a' := ?_) #[true, true, true, true, true, false, true, true, true, true, false, false, false, false] rfl rfl (any_of HT_.out (by kernel_rfl)) (fun _ _ _ h => h) (Or.inl ⟨by rfl, ?_⟩) ?_ ?_
      rotate_left
      · intro w'
        go_simp
        with_reducible rfl
      rotate_left
      · simp only [Act.put, List.setIfInBounds_toArray, List.set_cons_zero, List.set_cons_succ, i64_w, i32_w]
        rfl
      refine take_ (i := 10) (N := some 66) (v := ?_) (a' := ?_) #[true, true, true, true, true, false, true, true, true, true, true, false, false, false] rfl rfl (take_ofW HT_.out HW_.out (by kernel_rfl)) (fun _ _ _ h => h) (Or.inl ⟨by rfl, ?_⟩) hHeld ?_ ?_
      rotate_left
      · rintro w' s0_
        go_simp
        with_reducible rfl
      rotate_left
      · simp only [Act.put, List.setIfInBounds_toArray, List.set_cons_zero, List.set_cons_succ, i64_w, i32_w]
        rfl
      refine one_ (i := 5) (N := some 61) #[true, true, true, true, true, true, true, true, true, true, true, false, false, false] rfl rfl (one_of HT_.out (by kernel_rfl)) (by decide) (fun K hK => ?_)
      have hbs_ := below_size HB.out
      refine goes_ Try.func13 (by kernel_rfl) rfl #[.pointer (some ⟨g, 0, none⟩), .string p] (by rfl) rfl rfl (by (try simp only [List.map_toArray, List.map_cons, List.map_nil]); first | done | rfl) ?_
      with_reducible refine (scan_Scanner_Write.calls kk g _ bx p _ _ _ w _ HX.out HB.out F3_.out).mono ?_
      rintro e wv21 ⟨va_, rfl, ho, hi, hb, hk⟩
      refine ⟨_, rfl, ?_⟩
      have n22_ : Aside0 (Below w.heap.size w wv21) := ⟨hb⟩
      have n23_ : Aside0 (IsS58 w wv21 g l b) := ⟨hi⟩
      have n24_ : Aside0 (IsS27 w wv21 gr lx bx) := ⟨rst_keepS HR.out HX.out hk⟩
      have n25_ : Aside0 (IsS58 w wv21 gy ly by_) := ⟨st_keep HY.out hk hny⟩
      have n26_ : Aside0 (IsS27 w wv21 gs ly by_) := ⟨rst_keepS HS.out HX.out hk⟩
      have n27_ : Aside0 (Kd.R k49 49 wv21 w.heap.size (fun _ => True) va_ o) := ⟨Kd.R_lower ho hbs_⟩
      clear HB HX HR HY HS
      have HB := n22_
      have HX := n23_
      have HR := n24_
      have HY := n25_
      have HS := n26_
      have RA := n27_
      clear n22_ n23_ n24_ n25_ n26_ n27_
      clear hi hb hk ho
      obtain ⟨raA, raC, rfl⟩ := Kd.R_slice RA.out
      clear hbs_
      refine hK.out _ _ ((HB.out.cell (World.block_lt_of_cell? w _ HXC.out)).trans HXC.out) (fun hHeld => ?_)
      clear hK K
      refine norm_ (a' := ?_) ?_ ?_
      rotate_left
      · show Act.put _ (some 61) _ = _
        simp only [Act.put, List.setIfInBounds_toArray, List.set_cons_zero, List.set_cons_succ, i64_w, i32_w]
        rfl
      refine one_ (i := 11) (N := some 67) #[true, true, true, true, true, true, true, true, true, true, true, true, false, false] rfl rfl (one_of HT_.out (by kernel_rfl)) (by decide) (fun K hK => ?_)
      have hbs_ := below_size HB.out
      refine goes_ Try.func14 (by kernel_rfl) rfl #[.pointer (some ⟨gr, 0, none⟩), .string p] (by rfl) rfl rfl (by (try simp only [List.map_toArray, List.map_cons, List.map_nil]); first | done | rfl) ?_
      with_reducible refine (bourneref1_Scanner_Write.calls kk gr _ bx p _ _ _ w _ HR.out HB.out F4_.out).mono ?_
      rintro e wv28 ⟨va_, rfl, ho, hi, hb, hk⟩
      refine ⟨_, rfl, ?_⟩
      have n29_ : Aside0 (Below w.heap.size w wv28) := ⟨hb⟩
      have n30_ : Aside0 (IsS58 w wv28 g l b) := ⟨st_keepR HX.out HR.out hk⟩
      have n31_ : Aside0 (IsS27 w wv28 gr l b) := ⟨hi⟩
      have n32_ : Aside0 (IsS58 w wv28 gy ly by_) := ⟨st_keepR HY.out HR.out hk⟩
      have n33_ : Aside0 (IsS27 w wv28 gs ly by_) := ⟨rst_keep HS.out hk hns⟩
      have n34_ : Aside0 (Kd.R k49 49 wv28 w.heap.size (fun _ => True) (.slice raA o.length raC) o) := ⟨rw_keepR RA.out HR.out hk⟩
      have n35_ : Aside0 (Kd.R k49 49 wv28 w.heap.size (fun _ => True) va_ o) := ⟨Kd.R_lower ho hbs_⟩
      clear HB HX HR HY HS RA
      have HB := n29_
      have HX := n30_
      have HR := n31_
      have HY := n32_
      have HS := n33_
      have RA := n34_
      have RB := n35_
      clear n29_ n30_ n31_ n32_ n33_ n34_ n35_
      clear hi hb hk ho
      obtain ⟨rbA, rbC, rfl⟩ := Kd.R_slice RB.out
      clear hbs_
      refine hK.out _ _ ((HB.out.cell (World.block_lt_of_cell? w _ HXC.out)).trans HXC.out) (fun hHeld => ?_)
      clear hK K
      refine norm_ (a' := ?_) ?_ ?_
      rotate_left
      · show Act.put _ (some 67) _ = _
        simp only [Act.put, List.setIfInBounds_toArray, List.set_cons_zero, List.set_cons_succ, i64_w, i32_w]
        rfl
      refine pure_ (i := 12) (N := some 16) (v := ?_) (a' := ?_) #[true, true, true, true, true, true, true, true, true, true, true, true, true, false] rfl rfl (any_of HT_.out (by kernel_rfl)) (fun _ _ _ h => h) (Or.inl ⟨by rfl, ?_⟩) ?_ ?_
      rotate_left
      · intro w'
        go_simp
        with_reducible rfl
      rotate_left
      · simp only [Act.put, List.setIfInBounds_toArray, List.set_cons_zero, List.set_cons_succ, i64_w, i32_w]
        rfl
      refine pure_ (i := 13) (N := some 17) (v := ?_) (a' := ?_) #[true, true, true, true, true, true, true, true, true, true, true, true, true, true] rfl rfl (any_of HT_.out (by kernel_rfl)) (fun _ _ _ h => h) (Or.inl ⟨by rfl, ?_⟩) ?_ ?_
      rotate_left
      · intro w'
        go_simp
        with_reducible rfl
      rotate_left
      · simp only [Act.put, List.setIfInBounds_toArray, List.set_cons_zero, List.set_cons_succ, i64_w, i32_w]
        rfl
      refine done_ (done_of HT_.out (by kernel_rfl)) ?_
      go_upto_region 13 with (fail)
      refine start_ (n := 22) (S := fun w' => w'.cell? ⟨gr, 0, none⟩ = some (.string l) ∧ w'.cell? ⟨gr, 1, none⟩ = some (.int .i64 b)) (ds := []) #[false, false, false, false, false, false, false, false, false, false, false, false, false, false, false, false, false, false, false, false, false, false] (by kernel_rfl) rfl rfl (⟨cellS27_0 HR.out.1, cellS27_1 HR.out.1⟩) (fun hHeld => ?_)
      refine with_tabW tab3_13 bits3_13 (fun HT_ HW_ => ?_)
      have hbd := below_drew1 (Below.refl wv28.heap.size wv28)
      generalize wv28.drew = wd36 at hbd hHeld ⊢
      have n37_ : Aside0 (Below w.heap.size w wd36) := ⟨below_step HB.out hbd⟩
      have n38_ : Aside0 (IsS58 w wd36 g l b) := ⟨IsS58.below HX.out hbd⟩
      have n39_ : Aside0 (IsS27 w wd36 gr l b) := ⟨IsS27.below HR.out hbd⟩
      have n40_ : Aside0 (IsS58 w wd36 gy ly by_) := ⟨IsS58.below HY.out hbd⟩
      have n41_ : Aside0 (IsS27 w wd36 gs ly by_) := ⟨IsS27.below HS.out hbd⟩
      have n42_ : Aside0 (Kd.R k49 49 wd36 w.heap.size (fun _ => True) (.slice raA o.length raC) o) := ⟨Kd.R_below RA.out hbd⟩
      have n43_ : Aside0 (Kd.R k49 49 wd36 w.heap.size (fun _ => True) (.slice rbA o.length rbC) o) := ⟨Kd.R_below RB.out hbd⟩
      clear HB HX HR HY HS RA RB
      have HB := n37_
      have HX := n38_
      have HR := n39_
      have HY := n40_
      have HS := n41_
      have RA := n42_
      have RB := n43_
      clear n37_ n38_ n39_ n40_ n41_ n42_ n43_
      clear hbd
      refine pure_ (i := 0) (N := some 68) (v := ?_) (a' := ?_) #[true, false, false, false, false, false, false, false, false, false, false, false, false, false, false, false, false, false, false, false, false, false] rfl rfl (any_of HT_.out (by kernel_rfl)) (fun _ _ _ h => h) (Or.inl ⟨by rfl, ?_⟩) ?_ ?_
      rotate_left
      · intro w'
        go_simp
        with_reducible rfl
      rotate_left
      · simp only [Act.put, List.setIfInBounds_toArray, List.set_cons_zero, List.set_cons_succ, i64_w, i32_w]
        rfl
      refine pure_ (i := 1) (N := some 69) (v := ?_) (a' := ?_) #[true, true, false, false, false, false, false, false, false, false, false, false, false, false, false, false, false, false, false, false, false, false] rfl rfl (any_of HT_.out (by kernel_rfl)) (fun _ _ _ h => h) (Or.inl ⟨by rfl, ?_⟩) ?_ ?_
      rotate_left
      · intro w'
        go_simp
        with_reducible rfl
      rotate_left
      · simp only [Act.put, List.setIfInBounds_toArray, List.set_cons_zero, List.set_cons_succ, i64_w, i32_w]
        rfl
      refine one_ (i := 2) (N := some 70) #[true, true, true, false, false, false, false, false, false, false, false, false, false, false, false, false, false, false, false, false, false, false] rfl rfl (one_of HT_.out (by kernel_rfl)) (by decide) (fun K hK => ?_)
      obtain ⟨_, hc0, hC0⟩ := Kd.R_reads' RA.out
      obtain ⟨_, hc1, hC1⟩ := Kd.R_reads' RB.out
      refine goes_ Try.func15 (by kernel_rfl) rfl #[.slice raA o.length raC, .slice rbA o.length rbC] (by rfl) rfl rfl (by (try simp only [List.map_toArray, List.map_cons, List.map_nil]); first | done | rfl) ?_
      with_reducible refine (same_calls kk _ _ o _ _ o true _ hC0 hc0 hC1 hc1 F5_.out).mono ?_
      rintro e ws44 ⟨rfl, hb⟩
      refine ⟨_, rfl, ?_⟩
      clear hc0 hC0 hc1 hC1
      have n45_ : Aside0 (Below w.heap.size w ws44) := ⟨below_step HB.out hb⟩
      have n46_ : Aside0 (IsS58 w ws44 g l b) := ⟨IsS58.below HX.out hb⟩
      have n47_ : Aside0 (IsS27 w ws44 gr l b) := ⟨IsS27.below HR.out hb⟩
      have n48_ : Aside0 (IsS58 w ws44 gy ly by_) := ⟨IsS58.below HY.out hb⟩
      have n49_ : Aside0 (IsS27 w ws44 gs ly by_) := ⟨IsS27.below HS.out hb⟩
      have n50_ : Aside0 (Kd.R k49 49 ws44 w.heap.size (fun _ => True) (.slice raA o.length raC) o) := ⟨Kd.R_below RA.out hb⟩
      have n51_ : Aside0 (Kd.R k49 49 ws44 w.heap.size (fun _ => True) (.slice rbA o.length rbC) o) := ⟨Kd.R_below RB.out hb⟩
      clear HB HX HR HY HS RA RB
      have HB := n45_
      have HX := n46_
      have HR := n47_
      have HY := n48_
      have HS := n49_
      have RA := n50_
      have RB := n51_
      clear n45_ n46_ n47_ n48_ n49_ n50_ n51_
      clear hb
      refine hK.out _ _ (⟨cellS27_0 HR.out.1, cellS27_1 HR.out.1⟩) (fun hHeld => ?_)
      clear hK K
      refine norm_ (a' := ?_) ?_ ?_
      rotate_left
      · show Act.put _ (some 70) _ = _
        simp only [Act.put, List.setIfInBounds_toArray, List.set_cons_zero, List.set_cons_succ, i64_w, i32_w]
        rfl
      refine pure_ (i := 3) (N := some 71) (v := ?_) (a' := ?_) #[true, true, true, true, false, false, false, false, false, false, false, false, false, false, false, false, false, false, false, false, false, false] rfl rfl (any_of HT_.out (by kernel_rfl)) (fun _ _ _ h => h) (Or.inl ⟨by rfl, ?_⟩) ?_ ?_
      rotate_left
      · intro w'
        go_simp
        with_reducible rfl
      rotate_left
      · simp only [Act.put, List.setIfInBounds_toArray, List.set_cons_zero, List.set_cons_succ, i64_w, i32_w]
        rfl
      refine pure_ (i := 4) (N := some 72) (v := ?_) (a' := ?_) #[true, true, true, true, true, false, false, false, false, false, false, false, false, false, false, false, false, false, false, false, false, false] rfl rfl (any_of HT_.out (by kernel_rfl)) (fun _ _ _ h => h) (Or.inl ⟨by rfl, ?_⟩) ?_ ?_
      rotate_left
      · intro w'
        go_simp
        with_reducible rfl
      rotate_left
      · simp only [Act.put, List.setIfInBounds_toArray, List.set_cons_zero, List.set_cons_succ, i64_w, i32_w]
        rfl
      refine pure_ (i := 5) (N := some 73) (v := ?_) (a' := ?_) #[true, true, true, true, true, true, false, false, false, false, false, false, false, false, false, false, false, false, false, false, false, false] rfl rfl (any_of HT_.out (by kernel_rfl)) (fun _ _ _ h => h) (Or.inl ⟨by rfl, ?_⟩) ?_ ?_
      rotate_left
      · intro w'
        go_simp
        with_reducible rfl
      rotate_left
      · simp only [Act.put, List.setIfInBounds_toArray, List.set_cons_zero, List.set_cons_succ, i64_w, i32_w]
        rfl
      refine pure_ (i := 7) (N := some 75) (v := ?_) (a' := ?_) #[true, true, true, true, true, true, false, true, false, false, false, false, false, false, false, false, false, false, false, false, false, false] rfl rfl (any_of HT_.out (by kernel_rfl)) (fun _ _ _ h => h) (Or.inl ⟨by rfl, ?_⟩) ?_ ?_
      rotate_left
      · intro w'
        go_simp
        with_reducible rfl
      rotate_left
      · simp only [Act.put, List.setIfInBounds_toArray, List.set_cons_zero, List.set_cons_succ, i64_w, i32_w]
        rfl
      refine pure_ (i := 8) (N := some 76) (v := ?_) (a' := ?_) #[true, true, true, true, true, true, false, true, true, false, false, false, false, false, false, false, false, false, false, false, false, false] rfl rfl (any_of HT_.out (by kernel_rfl)) (fun _ _ _ h => h) (Or.inl ⟨by rfl, ?_⟩) ?_ ?_
      rotate_left
      · intro w'
        go_simp
        with_reducible rfl
      rotate_left
      · simp only [Act.put, List.setIfInBounds_toArray, List.set_cons_zero, List.set_cons_succ, i64_w, i32_w]
        rfl
      refine pure_ (i := 9) (N := some 77) (v := ?_) (a' := ?_) #[true, true, true, true, true, true, false, true, true, true, false, false, false, false, false, false, false, false, false, false, false, false] rfl rfl (any_of HT_.out (by kernel_rfl)) (fun _ _ _ h => h) (Or.inl ⟨by rfl, ?_⟩) ?_ ?_
      rotate_left
      · intro w'
        go_simp
        with_reducible rfl
      rotate_left
      · simp only [Act.put, List.setIfInBounds_toArray, List.set_cons_zero, List.set_cons_succ, i64_w, i32_w]
        rfl
      refine take_ (i := 10) (N := some 78) (v := ?_) (a' := ?_) #[true, true, true, true, true, true, false, true, true, true, true, false, false, false, false, false, false, false, false, false, false, false] rfl rfl (take_ofW HT_.out HW_.out (by kernel_rfl)) (fun _ _ _ h => h) (Or.inl ⟨by rfl, ?_⟩) hHeld ?_ ?_
      rotate_left
      · rintro w' ⟨s0_, s1_⟩
        go_simp
        with_reducible rfl
      rotate_left
      · simp only [Act.put, List.setIfInBounds_toArray, List.set_cons_zero, List.set_cons_succ, i64_w, i32_w]
        rfl
      refine one_ (i := 6) (N := some 74) #[true, true, true, true, true, true, true, true, true, true, true, false, false, false, false, false, false, false, false, false, false, false] rfl rfl (one_of HT_.out (by kernel_rfl)) (by decide) (fun K hK => ?_)
      have hbs_ := below_size HB.out
      refine goes_ Try.func16 (by kernel_rfl) rfl #[.pointer (some ⟨g, 0, none⟩)] (by rfl) rfl rfl (by (try simp only [List.map_toArray, List.map_cons, List.map_nil]); first | done | rfl) ?_
      with_reducible refine (scan_Scanner_Waits.calls g _ _ _ _ _ w _ HX.out HB.out rfl).mono ?_
      rintro e wv52 ⟨rfl, hi, hb, hk⟩
      refine ⟨_, rfl, ?_⟩
      have n53_ : Aside0 (Below w.heap.size w wv52) := ⟨hb⟩
      have n54_ : Aside0 (IsS58 w wv52 g l b) := ⟨hi⟩
      have n55_ : Aside0 (IsS27 w wv52 gr l b) := ⟨rst_keepS HR.out HX.out hk⟩
      have n56_ : Aside0 (IsS58 w wv52 gy ly by_) := ⟨st_keep HY.out hk hny⟩
      have n57_ : Aside0 (IsS27 w wv52 gs ly by_) := ⟨rst_keepS HS.out HX.out hk⟩
      have n58_ : Aside0 (Kd.R k49 49 wv52 w.heap.size (fun _ => True) (.slice raA o.length raC) o) := ⟨rw_keep RA.out HX.out hk⟩
      have n59_ : Aside0 (Kd.R k49 49 wv52 w.heap.size (fun _ => True) (.slice rbA o.length rbC) o) := ⟨rw_keep RB.out HX.out hk⟩
      clear HB HX HR HY HS RA RB
      have HB := n53_
      have HX := n54_
      have HR := n55_
      have HY := n56_
      have HS := n57_
      have RA := n58_
      have RB := n59_
      clear n53_ n54_ n55_ n56_ n57_ n58_ n59_
      clear hi hb hk
      clear hbs_
      refine hK.out _ _ (⟨cellS27_0 HR.out.1, cellS27_1 HR.out.1⟩) (fun hHeld => ?_)
      clear hK K
      refine norm_ (a' := ?_) ?_ ?_
      rotate_left
      · show Act.put _ (some 74) _ = _
        simp only [Act.put, List.setIfInBounds_toArray, List.set_cons_zero, List.set_cons_succ, i64_w, i32_w]
        rfl
      refine pure_ (i := 11) (N := some 79) (v := ?_) (a' := ?_) #[true, true, true, true, true, true, true, true, true, true, true, true, false, false, false, false, false, false, false, false, false, false] rfl rfl (any_of HT_.out (by kernel_rfl)) (fun _ _ _ h => h) (Or.inl ⟨by rfl, ?_⟩) ?_ ?_
      rotate_left
      · intro w'
        go_simp
        with_reducible rfl
      rotate_left
      · simp only [Act.put, List.setIfInBounds_toArray, List.set_cons_zero, List.set_cons_succ, i64_w, i32_w]
        rfl
      refine pure_ (i := 12) (N := some 80) (v := ?_) (a' := ?_) #[true, true, true, true, true, true, true, true, true, true, true, true, true, false, false, false, false, false, false, false, false, false] rfl rfl (any_of HT_.out (by kernel_rfl)) (fun _ _ _ h => h) (Or.inl ⟨by rfl, ?_⟩) ?_ ?_
      rotate_left
      · intro w'
        go_simp
        with_reducible rfl
      rotate_left
      · simp only [Act.put, List.setIfInBounds_toArray, List.set_cons_zero, List.set_cons_succ, i64_w, i32_w]
        rfl
      refine pure_ (i := 13) (N := some 81) (v := ?_) (a' := ?_) #[true, true, true, true, true, true, true, true, true, true, true, true, true, true, false, false, false, false, false, false, false, false] rfl rfl (any_of HT_.out (by kernel_rfl)) (fun _ _ _ h => h) (Or.inl ⟨by rfl, ?_⟩) ?_ ?_
      rotate_left
      · intro w'
        go_simp
        with_reducible rfl
      rotate_left
      · simp only [Act.put, List.setIfInBounds_toArray, List.set_cons_zero, List.set_cons_succ, i64_w, i32_w]
        rfl
      refine pure_ (i := 14) (N := some 82) (v := ?_) (a' := ?_) #[true, true, true, true, true, true, true, true, true, true, true, true, true, true, true, false, false, false, false, false, false, false] rfl rfl (any_of HT_.out (by kernel_rfl)) (fun _ _ _ h => h) (Or.inl ⟨by rfl, ?_⟩) ?_ ?_
      rotate_left
      · intro w'
        go_simp
        with_reducible rfl
      rotate_left
      · simp only [Act.put, List.setIfInBounds_toArray, List.set_cons_zero, List.set_cons_succ, i64_w, i32_w]
        rfl
      refine pure_ (i := 16) (N := some 84) (v := ?_) (a' := ?_) #[true, true, true, true, true, true, true, true, true, true, true, true, true, true, true, false, true, false, false, false, false, false] rfl rfl (any_of HT_.out (by kernel_rfl)) (fun _ _ _ h => h) (Or.inl ⟨by rfl, ?_⟩) ?_ ?_
      rotate_left
      · intro w'
        go_simp
        with_reducible rfl
      rotate_left
      · simp only [Act.put, List.setIfInBounds_toArray, List.set_cons_zero, List.set_cons_succ, i64_w, i32_w]
        rfl
      refine pure_ (i := 17) (N := some 85) (v := ?_) (a' := ?_) #[true, true, true, true, true, true, true, true, true, true, true, true, true, true, true, false, true, true, false, false, false, false] rfl rfl (any_of HT_.out (by kernel_rfl)) (fun _ _ _ h => h) (Or.inl ⟨by rfl, ?_⟩) ?_ ?_
      rotate_left
      · intro w'
        go_simp
        with_reducible rfl
      rotate_left
      · simp only [Act.put, List.setIfInBounds_toArray, List.set_cons_zero, List.set_cons_succ, i64_w, i32_w]
        rfl
      refine pure_ (i := 18) (N := some 86) (v := ?_) (a' := ?_) #[true, true, true, true, true, true, true, true, true, true, true, true, true, true, true, false, true, true, true, false, false, false] rfl rfl (any_of HT_.out (by kernel_rfl)) (fun _ _ _ h => h) (Or.inl ⟨by rfl, ?_⟩) ?_ ?_
      rotate_left
      · intro w'
        go_simp
        with_reducible rfl
      rotate_left
      · simp only [Act.put, List.setIfInBounds_toArray, List.set_cons_zero, List.set_cons_succ, i64_w, i32_w]
        rfl
      refine take_ (i := 19) (N := some 87) (v := ?_) (a' := ?_) #[true, true, true, true, true, true, true, true, true, true, true, true, true, true, true, false, true, true, true, true, false, false] rfl rfl (take_ofW HT_.out HW_.out (by kernel_rfl)) (fun _ _ _ h => h) (Or.inl ⟨by rfl, ?_⟩) hHeld ?_ ?_
      rotate_left
      · rintro w' ⟨s0_, s1_⟩
        go_simp
        with_reducible rfl
      rotate_left
      · simp only [Act.put, List.setIfInBounds_toArray, List.set_cons_zero, List.set_cons_succ, i64_w, i32_w]
        rfl
      refine one_ (i := 15) (N := some 83) #[true, true, true, true, true, true, true, true, true, true, true, true, true, true, true, true, true, true, true, true, false, false] rfl rfl (one_of HT_.out (by kernel_rfl)) (by decide) (fun K hK => ?_)
      have hbs_ := below_size HB.out
      refine goes_ Try.func17 (by kernel_rfl) rfl #[.pointer (some ⟨g, 0, none⟩)] (by rfl) rfl rfl (by (try simp only [List.map_toArray, List.map_cons, List.map_nil]); first | done | rfl) ?_
      with_reducible refine (scan_Scanner_Bad.calls g _ _ _ _ _ w _ HX.out HB.out rfl).mono ?_
      rintro e wv60 ⟨rfl, hi, hb, hk⟩
      refine ⟨_, rfl, ?_⟩
      have n61_ : Aside0 (Below w.heap.size w wv60) := ⟨hb⟩
      have n62_ : Aside0 (IsS58 w wv60 g l b) := ⟨hi⟩
      have n63_ : Aside0 (IsS27 w wv60 gr l b) := ⟨rst_keepS HR.out HX.out hk⟩
      have n64_ : Aside0 (IsS58 w wv60 gy ly by_) := ⟨st_keep HY.out hk hny⟩
      have n65_ : Aside0 (IsS27 w wv60 gs ly by_) := ⟨rst_keepS HS.out HX.out hk⟩
      have n66_ : Aside0 (Kd.R k49 49 wv60 w.heap.size (fun _ => True) (.slice raA o.length raC) o) := ⟨rw_keep RA.out HX.out hk⟩
      have n67_ : Aside0 (Kd.R k49 49 wv60 w.heap.size (fun _ => True) (.slice rbA o.length rbC) o) := ⟨rw_keep RB.out HX.out hk⟩
      clear HB HX HR HY HS RA RB
      have HB := n61_
      have HX := n62_
      have HR := n63_
      have HY := n64_
      have HS := n65_
      have RA := n66_
      have RB := n67_
      clear n61_ n62_ n63_ n64_ n65_ n66_ n67_
      clear hi hb hk
      clear hbs_
      refine hK.out _ _ (⟨cellS27_0 HR.out.1, cellS27_1 HR.out.1⟩) (fun hHeld => ?_)
      clear hK K
      refine norm_ (a' := ?_) ?_ ?_
      rotate_left
      · show Act.put _ (some 83) _ = _
        simp only [Act.put, List.setIfInBounds_toArray, List.set_cons_zero, List.set_cons_succ, i64_w, i32_w]
        rfl
      refine pure_ (i := 20) (N := some 88) (v := ?_) (a' := ?_) #[true, true, true, true, true, true, true, true, true, true, true, true, true, true, true, true, true, true, true, true, true, false] rfl rfl (any_of HT_.out (by kernel_rfl)) (fun _ _ _ h => h) (Or.inl ⟨by rfl, ?_⟩) ?_ ?_
      rotate_left
      · intro w'
        go_simp
        with_reducible rfl
      rotate_left
      · simp only [Act.put, List.setIfInBounds_toArray, List.set_cons_zero, List.set_cons_succ, i64_w, i32_w]
        rfl
      refine pure_ (i := 21) (N := some 89) (v := ?_) (a' := ?_) #[true, true, true, true, true, true, true, true, true, true, true, true, true, true, true, true, true, true, true, true, true, true] rfl rfl (any_of HT_.out (by kernel_rfl)) (fun _ _ _ h => h) (Or.inl ⟨by rfl, ?_⟩) ?_ ?_
      rotate_left
      · intro w'
        go_simp
        with_reducible rfl
      rotate_left
      · simp only [Act.put, List.setIfInBounds_toArray, List.set_cons_zero, List.set_cons_succ, i64_w, i32_w]
        rfl
      refine done_ (done_of HT_.out (by kernel_rfl)) ?_
      go_wp2_with fail
      refine (bournelaw0_SpoilOps.calls kk (fun k_ => some k_ = (Value.slice raA o.length raC).ownBlock) _ o z w _ HB.out (Kd.R_tight rfl RA.out) F6_.out).mono ?_
      rintro e w20 ⟨rfl, -, hb, hk⟩
      have HRA := RA
      clear RB
      have n68_ : Aside0 (Below w.heap.size w w20) := ⟨hb⟩
      have n69_ : Aside0 (IsS58 w w20 g l b) := ⟨IsS58.kept HX.out hk (fun e => IsS58.own_ne HX.out RA.out (by decide) e)⟩
      have n70_ : Aside0 (IsS27 w w20 gr l b) := ⟨IsS27.kept HR.out hk (fun e => IsS27.own_ne HR.out RA.out (by decide) e)⟩
      have n71_ : Aside0 (IsS58 w w20 gy ly by_) := ⟨IsS58.kept HY.out hk (fun e => IsS58.own_ne HY.out RA.out (by decide) e)⟩
      have n72_ : Aside0 (IsS27 w w20 gs ly by_) := ⟨IsS27.kept HS.out hk (fun e => IsS27.own_ne HS.out RA.out (by decide) e)⟩
      clear HB HX HR HY HS
      have HB := n68_
      have HX := n69_
      have HR := n70_
      have HY := n71_
      have HS := n72_
      clear n68_ n69_ n70_ n71_ n72_
      clear hb hk RA HRA
      go_upto_region 16 with (fail)
      refine start_ (n := 36) (S := fun w' => w'.cell? (ad.add i) = some (.string p)) (ds := []) #[false, false, false, false, false, false, false, false, false, false, false, false, false, false, false, false, false, false, false, false, false, false, false, false, false, false, false, false, false, false, false, false, false, false, false, false] (by kernel_rfl) rfl rfl ((HB.out.cell (World.block_lt_of_cell? w _ HXC.out)).trans HXC.out) (fun hHeld => ?_)
      refine with_tabW tab3_16 bits3_16 (fun HT_ HW_ => ?_)
      have hbd := below_drew1 (Below.refl w20.heap.size w20)
      generalize w20.drew = wd73 at hbd hHeld ⊢
      have n74_ : Aside0 (Below w.heap.size w wd73) := ⟨below_step HB.out hbd⟩
      have n75_ : Aside0 (IsS58 w wd73 g l b) := ⟨IsS58.below HX.out hbd⟩
      have n76_ : Aside0 (IsS27 w wd73 gr l b) := ⟨IsS27.below HR.out hbd⟩
      have n77_ : Aside0 (IsS58 w wd73 gy ly by_) := ⟨IsS58.below HY.out hbd⟩
      have n78_ : Aside0 (IsS27 w wd73 gs ly by_) := ⟨IsS27.below HS.out hbd⟩
      clear HB HX HR HY HS
      have HB := n74_
      have HX := n75_
      have HR := n76_
      have HY := n77_
      have HS := n78_
      clear n74_ n75_ n76_ n77_ n78_
      clear hbd
      refine pure_ (i := 0) (N := some 92) (v := ?_) (a' := ?_) #[true, false, false, false, false, false, false, false, false, false, false, false, false, false, false, false, false, false, false, false, false, false, false, false, false, false, false, false, false, false, false, false, false, false, false, false] rfl rfl (any_of HT_.out (by kernel_rfl)) (fun _ _ _ h => h) (Or.inl ⟨by rfl, ?_⟩) ?_ ?_
      rotate_left
      · intro w'
        go_simp
        with_reducible rfl
      rotate_left
      · simp only [Act.put, List.setIfInBounds_toArray, List.set_cons_zero, List.set_cons_succ, i64_w, i32_w]
        rfl
      refine pure_ (i := 1) (N := some 93) (v := ?_) (a' := ?_) #[true, true, false, false, false, false, false, false, false, false, false, false, false, false, false, false, false, false, false, false, false, false, false, false, false, false, false, false, false, false, false, false, false, false, false, false] rfl rfl (any_of HT_.out (by kernel_rfl)) (fun _ _ _ h => h) (Or.inl ⟨by rfl, ?_⟩) ?_ ?_
      rotate_left
      · intro w'
        go_simp
        with_reducible rfl
      rotate_left
      · simp only [Act.put, List.setIfInBounds_toArray, List.set_cons_zero, List.set_cons_succ, i64_w, i32_w]
        rfl
      refine pure_ (i := 2) (N := some 94) (v := ?_) (a' := ?_) #[true, true, true, false, false, false, false, false, false, false, false, false, false, false, false, false, false, false, false, false, false, false, false, false, false, false, false, false, false, false, false, false, false, false, false, false] rfl rfl (any_of HT_.out (by kernel_rfl)) (fun _ _ _ h => h) (Or.inl ⟨by rfl, ?_⟩) ?_ ?_
      rotate_left
      · intro w'
        go_simp
        with_reducible rfl
      rotate_left
      · simp only [Act.put, List.setIfInBounds_toArray, List.set_cons_zero, List.set_cons_succ, i64_w, i32_w]
        rfl
      refine pure_ (i := 3) (N := some 95) (v := ?_) (a' := ?_) #[true, true, true, true, false, false, false, false, false, false, false, false, false, false, false, false, false, false, false, false, false, false, false, false, false, false, false, false, false, false, false, false, false, false, false, false] rfl rfl (any_of HT_.out (by kernel_rfl)) (fun _ _ _ h => h) (Or.inl ⟨by rfl, ?_⟩) ?_ ?_
      rotate_left
      · intro w'
        go_simp
        with_reducible rfl
      rotate_left
      · simp only [Act.put, List.setIfInBounds_toArray, List.set_cons_zero, List.set_cons_succ, i64_w, i32_w]
        rfl
      refine pure_ (i := 4) (N := some 96) (v := ?_) (a' := ?_) #[true, true, true, true, true, false, false, false, false, false, false, false, false, false, false, false, false, false, false, false, false, false, false, false, false, false, false, false, false, false, false, false, false, false, false, false] rfl rfl (any_of HT_.out (by kernel_rfl)) (fun _ _ _ h => h) (Or.inl ⟨by rfl, ?_⟩) ?_ ?_
      rotate_left
      · intro w'
        go_simp
        with_reducible rfl
      rotate_left
      · simp only [Act.put, List.setIfInBounds_toArray, List.set_cons_zero, List.set_cons_succ, i64_w, i32_w]
        rfl
      refine pure_ (i := 5) (N := some 97) (v := ?_) (a' := ?_) #[true, true, true, true, true, true, false, false, false, false, false, false, false, false, false, false, false, false, false, false, false, false, false, false, false, false, false, false, false, false, false, false, false, false, false, false] rfl rfl (any_of HT_.out (by kernel_rfl)) (fun _ _ _ h => h) (Or.inl ⟨by rfl, ?_⟩) ?_ ?_
      rotate_left
      · intro w'
        go_simp
        with_reducible rfl
      rotate_left
      · simp only [Act.put, List.setIfInBounds_toArray, List.set_cons_zero, List.set_cons_succ, i64_w, i32_w]
        rfl
      refine pure_ (i := 6) (N := some 98) (v := ?_) (a' := ?_) #[true, true, true, true, true, true, true, false, false, false, false, false, false, false, false, false, false, false, false, false, false, false, false, false, false, false, false, false, false, false, false, false, false, false, false, false] rfl rfl (any_of HT_.out (by kernel_rfl)) (fun _ _ _ h => h) (Or.inl ⟨by rfl, ?_⟩) ?_ ?_
      rotate_left
      · intro w'
        go_simp
        with_reducible rfl
      rotate_left
      · simp only [Act.put, List.setIfInBounds_toArray, List.set_cons_zero, List.set_cons_succ, i64_w, i32_w]
        rfl
      refine take_ (i := 7) (N := some 99) (v := ?_) (a' := ?_) #[true, true, true, true, true, true, true, true, false, false, false, false, false, false, false, false, false, false, false, false, false, false, false, false, false, false, false, false, false, false, false, false, false, false, false, false] rfl rfl (take_ofW HT_.out HW_.out (by kernel_rfl)) (fun _ _ _ h => h) (Or.inl ⟨by rfl, ?_⟩) hHeld ?_ ?_
      rotate_left
      · rintro w' s0_
        go_simp
        with_reducible rfl
      rotate_left
      · simp only [Act.put, List.setIfInBounds_toArray, List.set_cons_zero, List.set_cons_succ, i64_w, i32_w]
        rfl
      refine pure_ (i := 9) (N := some 101) (v := ?_) (a' := ?_) #[true, true, true, true, true, true, true, true, false, true, false, false, false, false, false, false, false, false, false, false, false, false, false, false, false, false, false, false, false, false, false, false, false, false, false, false] rfl rfl (any_of HT_.out (by kernel_rfl)) (fun _ _ _ h => h) (Or.inl ⟨by rfl, ?_⟩) ?_ ?_
      rotate_left
      · intro w'
        go_simp
        with_reducible rfl
      rotate_left
      · simp only [Act.put, List.setIfInBounds_toArray, List.set_cons_zero, List.set_cons_succ, i64_w, i32_w]
        rfl
      refine pure_ (i := 10) (N := some 102) (v := ?_) (a' := ?_) #[true, true, true, true, true, true, true, true, false, true, true, false, false, false, false, false, false, false, false, false, false, false, false, false, false, false, false, false, false, false, false, false, false, false, false, false] rfl rfl (any_of HT_.out (by kernel_rfl)) (fun _ _ _ h => h) (Or.inl ⟨by rfl, ?_⟩) ?_ ?_
      rotate_left
      · intro w'
        go_simp
        with_reducible rfl
      rotate_left
      · simp only [Act.put, List.setIfInBounds_toArray, List.set_cons_zero, List.set_cons_succ, i64_w, i32_w]
        rfl
      refine pure_ (i := 11) (N := some 103) (v := ?_) (a' := ?_) #[true, true, true, true, true, true, true, true, false, true, true, true, false, false, false, false, false, false, false, false, false, false, false, false, false, false, false, false, false, false, false, false, false, false, false, false] rfl rfl (any_of HT_.out (by kernel_rfl)) (fun _ _ _ h => h) (Or.inl ⟨by rfl, ?_⟩) ?_ ?_
      rotate_left
      · intro w'
        go_simp
        with_reducible rfl
      rotate_left
      · simp only [Act.put, List.setIfInBounds_toArray, List.set_cons_zero, List.set_cons_succ, i64_w, i32_w]
        rfl
      refine pure_ (i := 12) (N := some 104) (v := ?_) (a' := ?_) #[true, true, true, true, true, true, true, true, false, true, true, true, true, false, false, false, false, false, false, false, false, false, false, false, false, false, false, false, false, false, false, false, false, false, false, false] rfl rfl (any_of HT_.out (by kernel_rfl)) (fun _ _ _ h => h) (Or.inl ⟨by rfl, ?_⟩) ?_ ?_
      rotate_left
      · intro w'
        go_simp
        with_reducible rfl
      rotate_left
      · simp only [Act.put, List.setIfInBounds_toArray, List.set_cons_zero, List.set_cons_succ, i64_w, i32_w]
        rfl
      refine take_ (i := 13) (N := some 105) (v := ?_) (a' := ?_) #[true, true, true, true, true, true, true, true, false, true, true, true, true, true, false, false, false, false, false, false, false, false, false, false, false, false, false, false, false, false, false, false, false, false, false, false] rfl rfl (take_ofW HT_.out HW_.out (by kernel_rfl)) (fun _ _ _ h => h) (Or.inl ⟨by rfl, ?_⟩) hHeld ?_ ?_
      rotate_left
      · rintro w' s0_
        go_simp
        with_reducible rfl
      rotate_left
      · simp only [Act.put, List.setIfInBounds_toArray, List.set_cons_zero, List.set_cons_succ, i64_w, i32_w]
        rfl
      refine one_ (i := 8) (N := some 100) #[true, true, true, true, true, true, true, true, true, true, true, true, true, true, false, false, false, false, false, false, false, false, false, false, false, false, false, false, false, false, false, false, false, false, false, false] rfl rfl (one_of HT_.out (by kernel_rfl)) (by decide) (fun K hK => ?_)
      have hbs_ := below_size HB.out
      refine goes_ Try.func13 (by kernel_rfl) rfl #[.pointer (some ⟨gy, 0, none⟩), .string p] (by rfl) rfl rfl (by (try simp only [List.map_toArray, List.map_cons, List.map_nil]); first | done | rfl) ?_
      with_reducible refine (scan_Scanner_Write.calls kk gy _ by_ p _ _ _ w _ HY.out HB.out Y1_.out).mono ?_
      rintro e wv79 ⟨va_, rfl, ho, hi, hb, hk⟩
      refine ⟨_, rfl, ?_⟩
      have n80_ : Aside0 (Below w.heap.size w wv79) := ⟨hb⟩
      have n81_ : Aside0 (IsS58 w wv79 g l b) := ⟨st_keep HX.out hk hny.symm⟩
      have n82_ : Aside0 (IsS27 w wv79 gr l b) := ⟨rst_keepS HR.out HY.out hk⟩
      have n83_ : Aside0 (IsS58 w wv79 gy l2 b2) := ⟨hi⟩
      have n84_ : Aside0 (IsS27 w wv79 gs ly by_) := ⟨rst_keepS HS.out HY.out hk⟩
      have n85_ : Aside0 (Kd.R k49 49 wv79 w.heap.size (fun _ => True) va_ o2) := ⟨Kd.R_lower ho hbs_⟩
      clear HB HX HR HY HS
      have HB := n80_
      have HX := n81_
      have HR := n82_
      have HY := n83_
      have HS := n84_
      have RC := n85_
      clear n80_ n81_ n82_ n83_ n84_ n85_
      clear hi hb hk ho
      obtain ⟨rcA, rcC, rfl⟩ := Kd.R_slice RC.out
      clear hbs_
      refine hK.out _ _ ((HB.out.cell (World.block_lt_of_cell? w _ HXC.out)).trans HXC.out) (fun hHeld => ?_)
      clear hK K
      refine norm_ (a' := ?_) ?_ ?_
      rotate_left
      · show Act.put _ (some 100) _ = _
        simp only [Act.put, List.setIfInBounds_toArray, List.set_cons_zero, List.set_cons_succ, i64_w, i32_w]
        rfl
      refine one_ (i := 14) (N := some 106) #[true, true, true, true, true, true, true, true, true, true, true, true, true, true, true, false, false, false, false, false, false, false, false, false, false, false, false, false, false, false, false, false, false, false, false, false] rfl rfl (one_of HT_.out (by kernel_rfl)) (by decide) (fun K hK => ?_)
      have hbs_ := below_size HB.out
      refine goes_ Try.func14 (by kernel_rfl) rfl #[.pointer (some ⟨gs, 0, none⟩), .string p] (by rfl) rfl rfl (by (try simp only [List.map_toArray, List.map_cons, List.map_nil]); first | done | rfl) ?_
      with_reducible refine (bourneref1_Scanner_Write.calls kk gs _ by_ p _ _ _ w _ HS.out HB.out Y2_.out).mono ?_
      rintro e wv86 ⟨va_, rfl, ho, hi, hb, hk⟩
      refine ⟨_, rfl, ?_⟩
      have n87_ : Aside0 (Below w.heap.size w wv86) := ⟨hb⟩
      have n88_ : Aside0 (IsS58 w wv86 g l b) := ⟨st_keepR HX.out HS.out hk⟩
      have n89_ : Aside0 (IsS27 w wv86 gr l b) := ⟨rst_keep HR.out hk hns.symm⟩
      have n90_ : Aside0 (IsS58 w wv86 gy l2 b2) := ⟨st_keepR HY.out HS.out hk⟩
      have n91_ : Aside0 (IsS27 w wv86 gs l2 b2) := ⟨hi⟩
      have n92_ : Aside0 (Kd.R k49 49 wv86 w.heap.size (fun _ => True) (.slice rcA o2.length rcC) o2) := ⟨rw_keepR RC.out HS.out hk⟩
      have n93_ : Aside0 (Kd.R k49 49 wv86 w.heap.size (fun _ => True) va_ o2) := ⟨Kd.R_lower ho hbs_⟩
      clear HB HX HR HY HS RC
      have HB := n87_
      have HX := n88_
      have HR := n89_
      have HY := n90_
      have HS := n91_
      have RC := n92_
      have RD := n93_
      clear n87_ n88_ n89_ n90_ n91_ n92_ n93_
      clear hi hb hk ho
      obtain ⟨rdA, rdC, rfl⟩ := Kd.R_slice RD.out
      clear hbs_
      refine hK.out _ _ ((HB.out.cell (World.block_lt_of_cell? w _ HXC.out)).trans HXC.out) (fun hHeld => ?_)
      clear hK K
      refine norm_ (a' := ?_) ?_ ?_
      rotate_left
      · show Act.put _ (some 106) _ = _
        simp only [Act.put, List.setIfInBounds_toArray, List.set_cons_zero, List.set_cons_succ, i64_w, i32_w]
        rfl
      refine one_ (i := 15) (N := some 107) #[true, true, true, true, true, true, true, true, true, true, true, true, true, true, true, true, false, false, false, false, false, false, false, false, false, false, false, false, false, false, false, false, false, false, false, false] rfl rfl (one_of HT_.out (by kernel_rfl)) (by decide) (fun K hK => ?_)
      obtain ⟨_, hc0, hC0⟩ := Kd.R_reads' RC.out
      obtain ⟨_, hc1, hC1⟩ := Kd.R_reads' RD.out
      refine goes_ Try.func15 (by kernel_rfl) rfl #[.slice rcA o2.length rcC, .slice rdA o2.length rdC] (by rfl) rfl rfl (by (try simp only [List.map_toArray, List.map_cons, List.map_nil]); first | done | rfl) ?_
      with_reducible refine (same_calls kk _ _ o2 _ _ o2 true _ hC0 hc0 hC1 hc1 Y3_.out).mono ?_
      rintro e ws94 ⟨rfl, hb⟩
      refine ⟨_, rfl, ?_⟩
      clear hc0 hC0 hc1 hC1
      have n95_ : Aside0 (Below w.heap.size w ws94) := ⟨below_step HB.out hb⟩
      have n96_ : Aside0 (IsS58 w ws94 g l b) := ⟨IsS58.below HX.out hb⟩
      have n97_ : Aside0 (IsS27 w ws94 gr l b) := ⟨IsS27.below HR.out hb⟩
      have n98_ : Aside0 (IsS58 w ws94 gy l2 b2) := ⟨IsS58.below HY.out hb⟩
      have n99_ : Aside0 (IsS27 w ws94 gs l2 b2) := ⟨IsS27.below HS.out hb⟩
      have n100_ : Aside0 (Kd.R k49 49 ws94 w.heap.size (fun _ => True) (.slice rcA o2.length rcC) o2) := ⟨Kd.R_below RC.out hb⟩
      have n101_ : Aside0 (Kd.R k49 49 ws94 w.heap.size (fun _ => True) (.slice rdA o2.length rdC) o2) := ⟨Kd.R_below RD.out hb⟩
      clear HB HX HR HY HS RC RD
      have HB := n95_
      have HX := n96_
      have HR := n97_
      have HY := n98_
      have HS := n99_
      have RC := n100_
      have RD := n101_
      clear n95_ n96_ n97_ n98_ n99_ n100_ n101_
      clear hb
      refine hK.out _ _ ((HB.out.cell (World.block_lt_of_cell? w _ HXC.out)).trans HXC.out) (fun hHeld => ?_)
      clear hK K
      refine norm_ (a' := ?_) ?_ ?_
      rotate_left
      · show Act.put _ (some 107) _ = _
        simp only [Act.put, List.setIfInBounds_toArray, List.set_cons_zero, List.set_cons_succ, i64_w, i32_w]
        rfl
      clear RC RD
      refine pure_ (i := 16) (N := some 108) (v := ?_) (a' := ?_) #[true, true, true, true, true, true, true, true, true, true, true, true, true, true, true, true, true, false, false, false, false, false, false, false, false, false, false, false, false, false, false, false, false, false, false, false] rfl rfl (any_of HT_.out (by kernel_rfl)) (fun _ _ _ h => h) (Or.inl ⟨by rfl, ?_⟩) ?_ ?_
      rotate_left
      · intro w'
        go_simp
        with_reducible rfl
      rotate_left
      · simp only [Act.put, List.setIfInBounds_toArray, List.set_cons_zero, List.set_cons_succ, i64_w, i32_w]
        rfl
      refine pure_ (i := 17) (N := some 109) (v := ?_) (a' := ?_) #[true, true, true, true, true, true, true, true, true, true, true, true, true, true, true, true, true, true, false, false, false, false, false, false, false, false, false, false, false, false, false, false, false, false, false, false] rfl rfl (any_of HT_.out (by kernel_rfl)) (fun _ _ _ h => h) (Or.inl ⟨by rfl, ?_⟩) ?_ ?_
      rotate_left
      · intro w'
        go_simp
        with_reducible rfl
      rotate_left
      · simp only [Act.put, List.setIfInBounds_toArray, List.set_cons_zero, List.set_cons_succ, i64_w, i32_w]
        rfl
      refine pure_ (i := 18) (N := some 110) (v := ?_) (a' := ?_) #[true, true, true, true, true, true, true, true, true, true, true, true, true, true, true, true, true, true, true, false, false, false, false, false, false, false, false, false, false, false, false, false, false, false, false, false] rfl rfl (any_of HT_.out (by kernel_rfl)) (fun _ _ _ h => h) (Or.inl ⟨by rfl, ?_⟩) ?_ ?_
      rotate_left
      · intro w'
        go_simp
        with_reducible rfl
      rotate_left
      · simp only [Act.put, List.setIfInBounds_toArray, List.set_cons_zero, List.set_cons_succ, i64_w, i32_w]
        rfl
      refine pure_ (i := 20) (N := some 112) (v := ?_) (a' := ?_) #[true, true, true, true, true, true, true, true, true, true, true, true, true, true, true, true, true, true, true, false, true, false, false, false, false, false, false, false, false, false, false, false, false, false, false, false] rfl rfl (any_of HT_.out (by kernel_rfl)) (fun _ _ _ h => h) (Or.inl ⟨by rfl, ?_⟩) ?_ ?_
      rotate_left
      · intro w'
        go_simp
        with_reducible rfl
      rotate_left
      · simp only [Act.put, List.setIfInBounds_toArray, List.set_cons_zero, List.set_cons_succ, i64_w, i32_w]
        rfl
      refine pure_ (i := 21) (N := some 113) (v := ?_) (a' := ?_) #[true, true, true, true, true, true, true, true, true, true, true, true, true, true, true, true, true, true, true, false, true, true, false, false, false, false, false, false, false, false, false, false, false, false, false, false] rfl rfl (any_of HT_.out (by kernel_rfl)) (fun _ _ _ h => h) (Or.inl ⟨by rfl, ?_⟩) ?_ ?_
      rotate_left
      · intro w'
        go_simp
        with_reducible rfl
      rotate_left
      · simp only [Act.put, List.setIfInBounds_toArray, List.set_cons_zero, List.set_cons_succ, i64_w, i32_w]
        rfl
      refine pure_ (i := 22) (N := some 114) (v := ?_) (a' := ?_) #[true, true, true, true, true, true, true, true, true, true, true, true, true, true, true, true, true, true, true, false, true, true, true, false, false, false, false, false, false, false, false, false, false, false, false, false] rfl rfl (any_of HT_.out (by kernel_rfl)) (fun _ _ _ h => h) (Or.inl ⟨by rfl, ?_⟩) ?_ ?_
      rotate_left
      · intro w'
        go_simp
        with_reducible rfl
      rotate_left
      · simp only [Act.put, List.setIfInBounds_toArray, List.set_cons_zero, List.set_cons_succ, i64_w, i32_w]
        rfl
      refine join_ (σ := Unit) 12 #[true, true, true, true, true, true, true, true, true, true, true, true, true, true, true, true, true, true, true, true, true, true, true, true, false, false, false, false, false, false, false, false, false, false, false, false] (fun _ => [(111, .string l2), (115, .string l2)]) (fun _ w' => (Below w.heap.size w w') ∧ (IsS58 w w' g l b) ∧ (IsS27 w w' gr l b) ∧ (IsS58 w w' gy l2 b2) ∧ (IsS27 w w' gs l2 b2)) ?_ ?_
      rotate_left
      · intro hJ
        refine two_ (i := 19) (j := 23) (Ni := some 111) (Nj := some 115) #[true, true, true, true, true, true, true, true, true, true, true, true, true, true, true, true, true, true, true, true, true, true, true, false, false, false, false, false, false, false, false, false, false, false, false, false] #[true, true, true, true, true, true, true, true, true, true, true, true, true, true, true, true, true, true, true, false, true, true, true, true, false, false, false, false, false, false, false, false, false, false, false, false] rfl rfl rfl rfl (two_of HT_.out (by kernel_rfl)) (by decide) (by decide) (fun K hK => ?_) (fun K hK => ?_)
        · refine goes_ Try.func16 (by kernel_rfl) rfl #[.pointer (some ⟨gy, 0, none⟩)] (by rfl) rfl rfl (by (try simp only [List.map_toArray, List.map_cons, List.map_nil]); first | done | rfl) ?_
          with_reducible refine (scan_Scanner_Waits.calls gy _ _ _ _ _ w _ HY.out HB.out rfl).mono ?_
          rintro e wv102 ⟨rfl, hi, hb, hk⟩
          refine ⟨_, rfl, ?_⟩
          have n103_ : Aside0 (Below w.heap.size w wv102) := ⟨hb⟩
          have n104_ : Aside0 (IsS58 w wv102 g l b) := ⟨st_keep HX.out hk hny.symm⟩
          have n105_ : Aside0 (IsS27 w wv102 gr l b) := ⟨rst_keepS HR.out HY.out hk⟩
          have n106_ : Aside0 (IsS58 w wv102 gy l2 b2) := ⟨hi⟩
          have n107_ : Aside0 (IsS27 w wv102 gs l2 b2) := ⟨rst_keepS HS.out HY.out hk⟩
          clear HB HX HR HY HS
          have HB := n103_
          have HX := n104_
          have HR := n105_
          have HY := n106_
          have HS := n107_
          clear n103_ n104_ n105_ n106_ n107_
          clear hi hb hk
          refine hK.out _ _ ((HB.out.cell (World.block_lt_of_cell? w _ HXC.out)).trans HXC.out) (fun hHeld => ?_)
          clear hK K
          refine norm_ (a' := ?_) ?_ ?_
          rotate_left
          · show Act.put _ (some 111) _ = _
            simp only [Act.put, List.setIfInBounds_toArray, List.set_cons_zero, List.set_cons_succ, i64_w, i32_w]
            rfl
          refine one_ (i := 23) (N := some 115) #[true, true, true, true, true, true, true, true, true, true, true, true, true, true, true, true, true, true, true, true, true, true, true, true, false, false, false, false, false, false, false, false, false, false, false, false] rfl rfl (one_of HT_.out (by kernel_rfl)) (by decide) (fun K hK => ?_)
          have hx_ := cellS27_0 HS.out.1
          refine value_ (w1 := ?_) (v := ?_) (by rfl) rfl ?_ ?_
          rotate_left 2
          · go_simp
            constructor
            · rfl
            · rfl
          clear hx_
          refine hK.out _ _ ((HB.out.cell (World.block_lt_of_cell? w _ HXC.out)).trans HXC.out) (fun hHeld => ?_)
          clear hK K
          refine norm_ (a' := ?_) ?_ ?_
          rotate_left
          · show Act.put _ (some 115) _ = _
            simp only [Act.put, List.setIfInBounds_toArray, List.set_cons_zero, List.set_cons_succ, i64_w, i32_w]
            rfl
          exact norm_ (by first | (simp only [putAll, Act.put, List.setIfInBounds_toArray, List.set_cons_zero, List.set_cons_succ]; done) | (simp only [putAll, Act.put, List.setIfInBounds_toArray, List.set_cons_zero, List.set_cons_succ]; rfl)) (hJ () _ ⟨HB.out, HX.out, HR.out, HY.out, HS.out⟩)
        · have hx_ := cellS27_0 HS.out.1
          refine value_ (w1 := ?_) (v := ?_) (by rfl) rfl ?_ ?_
          rotate_left 2
          · go_simp
            constructor
            · rfl
            · rfl
          clear hx_
          refine hK.out _ _ ((HB.out.cell (World.block_lt_of_cell? w _ HXC.out)).trans HXC.out) (fun hHeld => ?_)
          clear hK K
          refine norm_ (a' := ?_) ?_ ?_
          rotate_left
          · show Act.put _ (some 115) _ = _
            simp only [Act.put, List.setIfInBounds_toArray, List.set_cons_zero, List.set_cons_succ, i64_w, i32_w]
            rfl
          refine one_ (i := 19) (N := some 111) #[true, true, true, true, true, true, true, true, true, true, true, true, true, true, true, true, true, true, true, true, true, true, true, true, false, false, false, false, false, false, false, false, false, false, false, false] rfl rfl (one_of HT_.out (by kernel_rfl)) (by decide) (fun K hK => ?_)
          refine goes_ Try.func16 (by kernel_rfl) rfl #[.pointer (some ⟨gy, 0, none⟩)] (by rfl) rfl rfl (by (try simp only [List.map_toArray, List.map_cons, List.map_nil]); first | done | rfl) ?_
          with_reducible refine (scan_Scanner_Waits.calls gy _ _ _ _ _ w _ HY.out HB.out rfl).mono ?_
          rintro e wv108 ⟨rfl, hi, hb, hk⟩
          refine ⟨_, rfl, ?_⟩
          have n109_ : Aside0 (Below w.heap.size w wv108) := ⟨hb⟩
          have n110_ : Aside0 (IsS58 w wv108 g l b) := ⟨st_keep HX.out hk hny.symm⟩
          have n111_ : Aside0 (IsS27 w wv108 gr l b) := ⟨rst_keepS HR.out HY.out hk⟩
          have n112_ : Aside0 (IsS58 w wv108 gy l2 b2) := ⟨hi⟩
          have n113_ : Aside0 (IsS27 w wv108 gs l2 b2) := ⟨rst_keepS HS.out HY.out hk⟩
          clear HB HX HR HY HS
          have HB := n109_
          have HX := n110_
          have HR := n111_
          have HY := n112_
          have HS := n113_
          clear n109_ n110_ n111_ n112_ n113_
          clear hi hb hk
          refine hK.out _ _ ((HB.out.cell (World.block_lt_of_cell? w _ HXC.out)).trans HXC.out) (fun hHeld => ?_)
          clear hK K
          refine norm_ (a' := ?_) ?_ ?_
          rotate_left
          · show Act.put _ (some 111) _ = _
            simp only [Act.put, List.setIfInBounds_toArray, List.set_cons_zero, List.set_cons_succ, i64_w, i32_w]
            rfl
          exact norm_ (by first | (simp only [putAll, Act.put, List.setIfInBounds_toArray, List.set_cons_zero, List.set_cons_succ]; done) | (simp only [putAll, Act.put, List.setIfInBounds_toArray, List.set_cons_zero, List.set_cons_succ]; rfl)) (hJ () _ ⟨HB.out, HX.out, HR.out, HY.out, HS.out⟩)
      rintro _ wj114 ⟨h0_, h1_, h2_, h3_, h4_⟩
      have n115_ : Aside0 (Below w.heap.size w wj114) := ⟨h0_⟩
      have n116_ : Aside0 (IsS58 w wj114 g l b) := ⟨h1_⟩
      have n117_ : Aside0 (IsS27 w wj114 gr l b) := ⟨h2_⟩
      have n118_ : Aside0 (IsS58 w wj114 gy l2 b2) := ⟨h3_⟩
      have n119_ : Aside0 (IsS27 w wj114 gs l2 b2) := ⟨h4_⟩
      clear HB HX HR HY HS
      have HB := n115_
      have HX := n116_
      have HR := n117_
      have HY := n118_
      have HS := n119_
      clear n115_ n116_ n117_ n118_ n119_
      clear h0_ h1_ h2_ h3_ h4_
      refine norm_ (a' := ?_) ?_ ?_
      rotate_left
      · simp only [putAll, Act.put, List.setIfInBounds_toArray, List.set_cons_zero, List.set_cons_succ]
        rfl
      refine pure_ (i := 24) (N := some 116) (v := ?_) (a' := ?_) #[true, true, true, true, true, true, true, true, true, true, true, true, true, true, true, true, true, true, true, true, true, true, true, true, true, false, false, false, false, false, false, false, false, false, false, false] rfl rfl (any_of HT_.out (by kernel_rfl)) (fun _ _ _ h => h) (Or.inl ⟨by rfl, ?_⟩) ?_ ?_
      rotate_left
      · intro w'
        go_simp
        with_reducible rfl
      rotate_left
      · simp only [Act.put, List.setIfInBounds_toArray, List.set_cons_zero, List.set_cons_succ, i64_w, i32_w]
        rfl
      refine pure_ (i := 25) (N := some 117) (v := ?_) (a' := ?_) #[true, true, true, true, true, true, true, true, true, true, true, true, true, true, true, true, true, true, true, true, true, true, true, true, true, true, false, false, false, false, false, false, false, false, false, false] rfl rfl (any_of HT_.out (by kernel_rfl)) (fun _ _ _ h => h) (Or.inl ⟨by rfl, ?_⟩) ?_ ?_
      rotate_left
      · intro w'
        go_simp
        with_reducible rfl
      rotate_left
      · simp only [Act.put, List.setIfInBounds_toArray, List.set_cons_zero, List.set_cons_succ, i64_w, i32_w]
        rfl
      refine pure_ (i := 26) (N := some 118) (v := ?_) (a' := ?_) #[true, true, true, true, true, true, true, true, true, true, true, true, true, true, true, true, true, true, true, true, true, true, true, true, true, true, true, false, false, false, false, false, false, false, false, false] rfl rfl (any_of HT_.out (by kernel_rfl)) (fun _ _ _ h => h) (Or.inl ⟨by rfl, ?_⟩) ?_ ?_
      rotate_left
      · intro w'
        go_simp
        with_reducible rfl
      rotate_left
      · simp only [Act.put, List.setIfInBounds_toArray, List.set_cons_zero, List.set_cons_succ, i64_w, i32_w]
        rfl
      refine pure_ (i := 27) (N := some 119) (v := ?_) (a' := ?_) #[true, true, true, true, true, true, true, true, true, true, true, true, true, true, true, true, true, true, true, true, true, true, true, true, true, true, true, true, false, false, false, false, false, false, false, false] rfl rfl (any_of HT_.out (by kernel_rfl)) (fun _ _ _ h => h) (Or.inl ⟨by rfl, ?_⟩) ?_ ?_
      rotate_left
      · intro w'
        go_simp
        with_reducible rfl
      rotate_left
      · simp only [Act.put, List.setIfInBounds_toArray, List.set_cons_zero, List.set_cons_succ, i64_w, i32_w]
        rfl
      refine pure_ (i := 29) (N := some 121) (v := ?_) (a' := ?_) #[true, true, true, true, true, true, true, true, true, true, true, true, true, true, true, true, true, true, true, true, true, true, true, true, true, true, true, true, false, true, false, false, false, false, false, false] rfl rfl (any_of HT_.out (by kernel_rfl)) (fun _ _ _ h => h) (Or.inl ⟨by rfl, ?_⟩) ?_ ?_
      rotate_left
      · intro w'
        go_simp
        with_reducible rfl
      rotate_left
      · simp only [Act.put, List.setIfInBounds_toArray, List.set_cons_zero, List.set_cons_succ, i64_w, i32_w]
        rfl
      refine pure_ (i := 30) (N := some 122) (v := ?_) (a' := ?_) #[true, true, true, true, true, true, true, true, true, true, true, true, true, true, true, true, true, true, true, true, true, true, true, true, true, true, true, true, false, true, true, false, false, false, false, false] rfl rfl (any_of HT_.out (by kernel_rfl)) (fun _ _ _ h => h) (Or.inl ⟨by rfl, ?_⟩) ?_ ?_
      rotate_left
      · intro w'
        go_simp
        with_reducible rfl
      rotate_left
      · simp only [Act.put, List.setIfInBounds_toArray, List.set_cons_zero, List.set_cons_succ, i64_w, i32_w]
        rfl
      refine pure_ (i := 31) (N := some 123) (v := ?_) (a' := ?_) #[true, true, true, true, true, true, true, true, true, true, true, true, true, true, true, true, true, true, true, true, true, true, true, true, true, true, true, true, false, true, true, true, false, false, false, false] rfl rfl (any_of HT_.out (by kernel_rfl)) (fun _ _ _ h => h) (Or.inl ⟨by rfl, ?_⟩) ?_ ?_
      rotate_left
      · intro w'
        go_simp
        with_reducible rfl
      rotate_left
      · simp only [Act.put, List.setIfInBounds_toArray, List.set_cons_zero, List.set_cons_succ, i64_w, i32_w]
        rfl
      refine join_ (σ := Unit) 3 #[true, true, true, true, true, true, true, true, true, true, true, true, true, true, true, true, true, true, true, true, true, true, true, true, true, true, true, true, true, true, true, true, true, false, false, false] (fun _ => [(120, .int .i64 b2), (124, .int .i64 b2)]) (fun _ w' => (Below w.heap.size w w') ∧ (IsS58 w w' g l b) ∧ (IsS27 w w' gr l b) ∧ (IsS58 w w' gy l2 b2) ∧ (IsS27 w w' gs l2 b2)) ?_ ?_
      rotate_left
      · intro hJ
        refine two_ (i := 28) (j := 32) (Ni := some 120) (Nj := some 124) #[true, true, true, true, true, true, true, true, true, true, true, true, true, true, true, true, true, true, true, true, true, true, true, true, true, true, true, true, true, true, true, true, false, false, false, false] #[true, true, true, true, true, true, true, true, true, true, true, true, true, true, true, true, true, true, true, true, true, true, true, true, true, true, true, true, false, true, true, true, true, false, false, false] rfl rfl rfl rfl (two_of HT_.out (by kernel_rfl)) (by decide) (by decide) (fun K hK => ?_) (fun K hK => ?_)
        · refine goes_ Try.func17 (by kernel_rfl) rfl #[.pointer (some ⟨gy, 0, none⟩)] (by rfl) rfl rfl (by (try simp only [List.map_toArray, List.map_cons, List.map_nil]); first | done | rfl) ?_
          with_reducible refine (scan_Scanner_Bad.calls gy _ _ _ _ _ w _ HY.out HB.out rfl).mono ?_
          rintro e wv120 ⟨rfl, hi, hb, hk⟩
          refine ⟨_, rfl, ?_⟩
          have n121_ : Aside0 (Below w.heap.size w wv120) := ⟨hb⟩
          have n122_ : Aside0 (IsS58 w wv120 g l b) := ⟨st_keep HX.out hk hny.symm⟩
          have n123_ : Aside0 (IsS27 w wv120 gr l b) := ⟨rst_keepS HR.out HY.out hk⟩
          have n124_ : Aside0 (IsS58 w wv120 gy l2 b2) := ⟨hi⟩
          have n125_ : Aside0 (IsS27 w wv120 gs l2 b2) := ⟨rst_keepS HS.out HY.out hk⟩
          clear HB HX HR HY HS
          have HB := n121_
          have HX := n122_
          have HR := n123_
          have HY := n124_
          have HS := n125_
          clear n121_ n122_ n123_ n124_ n125_
          clear hi hb hk
          refine hK.out _ _ ((HB.out.cell (World.block_lt_of_cell? w _ HXC.out)).trans HXC.out) (fun hHeld => ?_)
          clear hK K
          refine norm_ (a' := ?_) ?_ ?_
          rotate_left
          · show Act.put _ (some 120) _ = _
            simp only [Act.put, List.setIfInBounds_toArray, List.set_cons_zero, List.set_cons_succ, i64_w, i32_w]
            rfl
          refine one_ (i := 32) (N := some 124) #[true, true, true, true, true, true, true, true, true, true, true, true, true, true, true, true, true, true, true, true, true, true, true, true, true, true, true, true, true, true, true, true, true, false, false, false] rfl rfl (one_of HT_.out (by kernel_rfl)) (by decide) (fun K hK => ?_)
          have hx_ := cellS27_1 HS.out.1
          refine value_ (w1 := ?_) (v := ?_) (by rfl) rfl ?_ ?_
          rotate_left 2
          · go_simp
            constructor
            · rfl
            · rfl
          clear hx_
          refine hK.out _ _ ((HB.out.cell (World.block_lt_of_cell? w _ HXC.out)).trans HXC.out) (fun hHeld => ?_)
          clear hK K
          refine norm_ (a' := ?_) ?_ ?_
          rotate_left
          · show Act.put _ (some 124) _ = _
            simp only [Act.put, List.setIfInBounds_toArray, List.set_cons_zero, List.set_cons_succ, i64_w, i32_w]
            rfl
          exact norm_ (by first | (simp only [putAll, Act.put, List.setIfInBounds_toArray, List.set_cons_zero, List.set_cons_succ]; done) | (simp only [putAll, Act.put, List.setIfInBounds_toArray, List.set_cons_zero, List.set_cons_succ]; rfl)) (hJ () _ ⟨HB.out, HX.out, HR.out, HY.out, HS.out⟩)
        · have hx_ := cellS27_1 HS.out.1
          refine value_ (w1 := ?_) (v := ?_) (by rfl) rfl ?_ ?_
          rotate_left 2
          · go_simp
            constructor
            · rfl
            · rfl
          clear hx_
          refine hK.out _ _ ((HB.out.cell (World.block_lt_of_cell? w _ HXC.out)).trans HXC.out) (fun hHeld => ?_)
          clear hK K
          refine norm_ (a' := ?_) ?_ ?_
          rotate_left
          · show Act.put _ (some 124) _ = _
            simp only [Act.put, List.setIfInBounds_toArray, List.set_cons_zero, List.set_cons_succ, i64_w, i32_w]
            rfl
          refine one_ (i := 28) (N := some 120) #[true, true, true, true, true, true, true, true, true, true, true, true, true, true, true, true, true, true, true, true, true, true, true, true, true, true, true, true, true, true, true, true, true, false, false, false] rfl rfl (one_of HT_.out (by kernel_rfl)) (by decide) (fun K hK => ?_)
          refine goes_ Try.func17 (by kernel_rfl) rfl #[.pointer (some ⟨gy, 0, none⟩)] (by rfl) rfl rfl (by (try simp only [List.map_toArray, List.map_cons, List.map_nil]); first | done | rfl) ?_
          with_reducible refine (scan_Scanner_Bad.calls gy _ _ _ _ _ w _ HY.out HB.out rfl).mono ?_
          rintro e wv126 ⟨rfl, hi, hb, hk⟩
          refine ⟨_, rfl, ?_⟩
          have n127_ : Aside0 (Below w.heap.size w wv126) := ⟨hb⟩
          have n128_ : Aside0 (IsS58 w wv126 g l b) := ⟨st_keep HX.out hk hny.symm⟩
          have n129_ : Aside0 (IsS27 w wv126 gr l b) := ⟨rst_keepS HR.out HY.out hk⟩
          have n130_ : Aside0 (IsS58 w wv126 gy l2 b2) := ⟨hi⟩
          have n131_ : Aside0 (IsS27 w wv126 gs l2 b2) := ⟨rst_keepS HS.out HY.out hk⟩
          clear HB HX HR HY HS
          have HB := n127_
          have HX := n128_
          have HR := n129_
          have HY := n130_
          have HS := n131_
          clear n127_ n128_ n129_ n130_ n131_
          clear hi hb hk
          refine hK.out _ _ ((HB.out.cell (World.block_lt_of_cell? w _ HXC.out)).trans HXC.out) (fun hHeld => ?_)
          clear hK K
          refine norm_ (a' := ?_) ?_ ?_
          rotate_left
          · show Act.put _ (some 120) _ = _
            simp only [Act.put, List.setIfInBounds_toArray, List.set_cons_zero, List.set_cons_succ, i64_w, i32_w]
            rfl
          exact norm_ (by first | (simp only [putAll, Act.put, List.setIfInBounds_toArray, List.set_cons_zero, List.set_cons_succ]; done) | (simp only [putAll, Act.put, List.setIfInBounds_toArray, List.set_cons_zero, List.set_cons_succ]; rfl)) (hJ () _ ⟨HB.out, HX.out, HR.out, HY.out, HS.out⟩)
      rintro _ wj132 ⟨h0_, h1_, h2_, h3_, h4_⟩
      have n133_ : Aside0 (Below w.heap.size w wj132) := ⟨h0_⟩
      have n134_ : Aside0 (IsS58 w wj132 g l b) := ⟨h1_⟩
      have n135_ : Aside0 (IsS27 w wj132 gr l b) := ⟨h2_⟩
      have n136_ : Aside0 (IsS58 w wj132 gy l2 b2) := ⟨h3_⟩
      have n137_ : Aside0 (IsS27 w wj132 gs l2 b2) := ⟨h4_⟩
      clear HB HX HR HY HS
      have HB := n133_
      have HX := n134_
      have HR := n135_
      have HY := n136_
      have HS := n137_
      clear n133_ n134_ n135_ n136_ n137_
      clear h0_ h1_ h2_ h3_ h4_
      refine norm_ (a' := ?_) ?_ ?_
      rotate_left
      · simp only [putAll, Act.put, List.setIfInBounds_toArray, List.set_cons_zero, List.set_cons_succ]
        rfl
      refine pure_ (i := 33) (N := some 125) (v := ?_) (a' := ?_) #[true, true, true, true, true, true, true, true, true, true, true, true, true, true, true, true, true, true, true, true, true, true, true, true, true, true, true, true, true, true, true, true, true, true, false, false] rfl rfl (any_of HT_.out (by kernel_rfl)) (fun _ _ _ h => h) (Or.inl ⟨by rfl, ?_⟩) ?_ ?_
      rotate_left
      · intro w'
        go_simp
        with_reducible rfl
      rotate_left
      · simp only [Act.put, List.setIfInBounds_toArray, List.set_cons_zero, List.set_cons_succ, i64_w, i32_w]
        rfl
      refine pure_ (i := 34) (N := some 126) (v := ?_) (a' := ?_) #[true, true, true, true, true, true, true, true, true, true, true, true, true, true, true, true, true, true, true, true, true, true, true, true, true, true, true, true, true, true, true, true, true, true, true, false] rfl rfl (any_of HT_.out (by kernel_rfl)) (fun _ _ _ h => h) (Or.inl ⟨by rfl, ?_⟩) ?_ ?_
      rotate_left
      · intro w'
        go_simp
        with_reducible rfl
      rotate_left
      · simp only [Act.put, List.setIfInBounds_toArray, List.set_cons_zero, List.set_cons_succ, i64_w, i32_w]
        rfl
      refine pure_ (i := 35) (N := some 127) (v := ?_) (a' := ?_) #[true, true, true, true, true, true, true, true, true, true, true, true, true, true, true, true, true, true, true, true, true, true, true, true, true, true, true, true, true, true, true, true, true, true, true, true] rfl rfl (any_of HT_.out (by kernel_rfl)) (fun _ _ _ h => h) (Or.inl ⟨by rfl, ?_⟩) ?_ ?_
      rotate_left
      · intro w'
        go_simp
        with_reducible rfl
      rotate_left
      · simp only [Act.put, List.setIfInBounds_toArray, List.set_cons_zero, List.set_cons_succ, i64_w, i32_w]
        rfl
      refine done_ (done_of HT_.out (by kernel_rfl)) ?_
      obtain ⟨cb, hcb⟩ : ∃ cb : Bool, (Go.bits .and .i64 (closes / 2 ^ i) 1 == 1) = cb := ⟨_, rfl⟩
      cases cb
      · have hw2 := HW2.out
        go_wp2_with fail
        go_roundg (30 - (i + 1))
        case measure => clear hw2; have := HI.out; omega
        case rel => exact ⟨i + 1, _, _, _, _, by first | rfl | rw [hw2] | (simp; done), ⟨by clear hw2; have := HI.out; omega⟩, PN_, HB, HX, HR, HY, HS⟩
      · go_wp2_with fail
        have hbs_ := below_size HB.out
        refine (scan_Scanner_Close.calls kk g _ _ _ _ _ w _ HX.out HB.out C1_.out).mono ?_
        rintro e w31 ⟨va_, rfl, ho, hi, hb, hk⟩
        have n138_ : Aside0 (Below w.heap.size w w31) := ⟨hb⟩
        have n139_ : Aside0 (IsS58 w w31 g (⟨#[]⟩ : ByteArray) 0) := ⟨hi⟩
        have n140_ : Aside0 (IsS27 w w31 gr l b) := ⟨rst_keepS HR.out HX.out hk⟩
        have n141_ : Aside0 (IsS58 w w31 gy l2 b2) := ⟨st_keep HY.out hk hny⟩
        have n142_ : Aside0 (IsS27 w w31 gs l2 b2) := ⟨rst_keepS HS.out HX.out hk⟩
        have n143_ : Aside0 (Kd.R k49 49 w31 w.heap.size (fun _ => True) va_ oc) := ⟨Kd.R_lower ho hbs_⟩
        clear HB HX HR HY HS
        have HB := n138_
        have HX := n139_
        have HR := n140_
        have HY := n141_
        have HS := n142_
        have RE := n143_
        clear n138_ n139_ n140_ n141_ n142_ n143_
        clear hi hb hk hbs_ ho
        obtain ⟨reA, reC, rfl⟩ := Kd.R_slice RE.out
        go_wp2_with fail
        have hbs_ := below_size HB.out
        refine (bourneref1_Scanner_Close.calls kk gr _ _ _ _ _ w _ HR.out HB.out C2_.out).mono ?_
        rintro e w32 ⟨va_, rfl, ho, hi, hb, hk⟩
        have n144_ : Aside0 (Below w.heap.size w w32) := ⟨hb⟩
        have n145_ : Aside0 (IsS58 w w32 g (⟨#[]⟩ : ByteArray) 0) := ⟨st_keepR HX.out HR.out hk⟩
        have n146_ : Aside0 (IsS27 w w32 gr (⟨#[]⟩ : ByteArray) 0) := ⟨hi⟩
        have n147_ : Aside0 (IsS58 w w32 gy l2 b2) := ⟨st_keepR HY.out HR.out hk⟩
        have n148_ : Aside0 (IsS27 w w32 gs l2 b2) := ⟨rst_keep HS.out hk hns⟩
        have n149_ : Aside0 (Kd.R k49 49 w32 w.heap.size (fun _ => True) (.slice reA oc.length reC) oc) := ⟨rw_keepR RE.out HR.out hk⟩
        have n150_ : Aside0 (Kd.R k49 49 w32 w.heap.size (fun _ => True) va_ oc) := ⟨Kd.R_lower ho hbs_⟩
        clear HB HX HR HY HS RE
        have HB := n144_
        have HX := n145_
        have HR := n146_
        have HY := n147_
        have HS := n148_
        have RE := n149_
        have RF := n150_
        clear n144_ n145_ n146_ n147_ n148_ n149_ n150_
        clear hi hb hk hbs_ ho
        obtain ⟨rfA, rfC, rfl⟩ := Kd.R_slice RF.out
        obtain ⟨-, hc0, hC0⟩ := Kd.R_reads' RE.out
        obtain ⟨-, hc1, hC1⟩ := Kd.R_reads' RF.out
        go_wp2_with fail
        refine (same_calls kk _ _ oc _ _ oc true _ hC0 hc0 hC1 hc1 C3_.out).mono ?_
        rintro e w33 ⟨rfl, hb⟩
        clear hc0 hC0 hc1 hC1
        clear RE RF
        have n151_ : Aside0 (Below w.heap.size w w33) := ⟨below_step HB.out hb⟩
        have n152_ : Aside0 (IsS58 w w33 g (⟨#[]⟩ : ByteArray) 0) := ⟨IsS58.below HX.out hb⟩
        have n153_ : Aside0 (IsS27 w w33 gr (⟨#[]⟩ : ByteArray) 0) := ⟨IsS27.below HR.out hb⟩
        have n154_ : Aside0 (IsS58 w w33 gy l2 b2) := ⟨IsS58.below HY.out hb⟩
        have n155_ : Aside0 (IsS27 w w33 gs l2 b2) := ⟨IsS27.below HS.out hb⟩
        clear HB HX HR HY HS
        have HB := n151_
        have HX := n152_
        have HR := n153_
        have HY := n154_
        have HS := n155_
        clear n151_ n152_ n153_ n154_ n155_
        clear hb
        go_wp2_with fail
        have hbs_ := below_size HB.out
        refine (scan_Scanner_Waits.calls g _ _ _ _ _ w _ HX.out HB.out rfl).mono ?_
        rintro e w34 ⟨rfl, hi, hb, hk⟩
        have n156_ : Aside0 (Below w.heap.size w w34) := ⟨hb⟩
        have n157_ : Aside0 (IsS58 w w34 g (⟨#[]⟩ : ByteArray) 0) := ⟨hi⟩
        have n158_ : Aside0 (IsS27 w w34 gr (⟨#[]⟩ : ByteArray) 0) := ⟨rst_keepS HR.out HX.out hk⟩
        have n159_ : Aside0 (IsS58 w w34 gy l2 b2) := ⟨st_keep HY.out hk hny⟩
        have n160_ : Aside0 (IsS27 w w34 gs l2 b2) := ⟨rst_keepS HS.out HX.out hk⟩
        clear HB HX HR HY HS
        have HB := n156_
        have HX := n157_
        have HR := n158_
        have HY := n159_
        have HS := n160_
        clear n156_ n157_ n158_ n159_ n160_
        clear hi hb hk hbs_
        go_wp2_with fail
        have hbs_ := below_size HB.out
        refine (scan_Scanner_Bad.calls g _ _ _ _ _ w _ HX.out HB.out rfl).mono ?_
        rintro e w35 ⟨rfl, hi, hb, hk⟩
        have n161_ : Aside0 (Below w.heap.size w w35) := ⟨hb⟩
        have n162_ : Aside0 (IsS58 w w35 g (⟨#[]⟩ : ByteArray) 0) := ⟨hi⟩
        have n163_ : Aside0 (IsS27 w w35 gr (⟨#[]⟩ : ByteArray) 0) := ⟨rst_keepS HR.out HX.out hk⟩
        have n164_ : Aside0 (IsS58 w w35 gy l2 b2) := ⟨st_keep HY.out hk hny⟩
        have n165_ : Aside0 (IsS27 w w35 gs l2 b2) := ⟨rst_keepS HS.out HX.out hk⟩
        clear HB HX HR HY HS
        have HB := n161_
        have HX := n162_
        have HR := n163_
        have HY := n164_
        have HS := n165_
        clear n161_ n162_ n163_ n164_ n165_
        clear hi hb hk hbs_
        have hw2 := HW2.out
        go_wp2_with fail
        go_roundg (30 - (i + 1))
        case measure => clear hw2; have := HI.out; omega
        case rel => exact ⟨i + 1, _, _, _, _, by first | rfl | rw [hw2] | (simp; done), ⟨by clear hw2; have := HI.out; omega⟩, PC_, HB, HX, HR, HY, HS⟩
    · have hx : (decide ((i : Int) < (parts.length : Int)) = false ∧ ¬ ((i : Int) < (parts.length : Int))) ∨ ((decide ((i : Int) < (parts.length : Int)) = true ∧ (i : Int) < (parts.length : Int)) ∧ decide ((i : Int) < (30 : Int)) = false ∧ ¬ ((i : Int) < (30 : Int))) := by
        by_cases z : i < parts.length
        · exact .inr ⟨⟨decide_eq_true (by omega), by omega⟩, decide_eq_false (by omega), by omega⟩
        · exact .inl ⟨decide_eq_false (by omega), by omega⟩
      rcases hx with ⟨q1, q3⟩ | ⟨⟨q1, q3⟩, q2, q4⟩
      all_goals
        go_wp2_with fail
        refine (AW.out _).mono ?_
        rintro e w40 ⟨rfl, hb⟩
        have HB2 := Aside0.mk (below_step HB.out hb)
        clear hb
        go_wp2_with fail
        go_ret
        exact ⟨by first | rfl | (simp; done), HB2.out⟩
set_option maxHeartbeats 20000000 in
set_option maxRecDepth 100000 in
theorem scans_no (k1 : Nat) (A0 : Option Addr) (c0 : Nat) (parts : List ByteArray) (closes : Int) (waits : ByteArray) (bad : Int) (x1 : ByteArray) (q1_ e_ : Int) (P : ByteArray → Int → ByteArray → Int → Prop) (w : World) (hc0_ : parts.length ≤ c0)
    (AW : Aside0 (∀ w : World, Calls Try.prog 21 #[] w fun e w' => e = .returned (.bool true) ∧ Below w.heap.size w w'))
    (HC : Aside0 (Kd.C Kd.string w A0 parts.length parts)) (HLC : Aside0 (parts.length ≤ 4611686018427387904))
    (F1 : Aside0 (frame_Get.f k1 waits 0 = some (x1, q1_, e_))) (F2 : Aside0 (bourneref1_GetFrame.f k1 waits 0 = some (x1, q1_, e_)))
    (HP : Aside0 (bad < 0 ∨ 1073741823 < bad ∨ (waits.toList ≠ ([] : List UInt8) ∧ e_ ≠ 801))) (P0 : Aside0 (P (⟨#[]⟩ : ByteArray) 0 waits bad))
    (PS : Aside0 (∀ lx bx ly by_ p, P lx bx ly by_ → p ∈ parts → ∃ kk o l b z, scan_Scanner_Write.f kk lx bx p = some (o, l, b) ∧ bourneref1_Scanner_Write.f kk lx bx p = some (o, l, b) ∧ bournelaw0_SameOps.f kk o o = some true ∧ bournelaw0_SpoilOps.f kk o = some z ∧
      ∃ oc, scan_Scanner_Close.f kk l b = some (oc, (⟨#[]⟩ : ByteArray), 0) ∧ bourneref1_Scanner_Close.f kk l b = some (oc, (⟨#[]⟩ : ByteArray), 0) ∧ bournelaw0_SameOps.f kk oc oc = some true ∧
      ∃ (o2 : List S49) (l2 : ByteArray) (b2 : Int), True ∧ True ∧ True ∧ P l b l2 b2 ∧ P (⟨#[]⟩ : ByteArray) 0 l2 b2)) :
    Calls Try.prog 3 #[.slice A0 parts.length c0, .int .i64 closes, .string waits, .int .i64 bad] w fun e w' => e = .returned (.bool true) ∧ Below w.heap.size w w' := by
  have HB := Aside0.mk (Below.refl w.heap.size w)
  go_enter Try.func3, Try.ntmps3
  go_wp2_with fail
  refine (scan_New.calls _ _ w _ HB.out rfl).mono ?_
  rintro e w2 ⟨g, rfl, hi, -, hb⟩
  have n1_ : Aside0 (Below w.heap.size w w2) := ⟨below_step HB.out hb⟩
  have n2_ : Aside0 (IsS58 w w2 g (⟨#[]⟩ : ByteArray) 0) := ⟨hi⟩
  clear HB
  have HB := n1_
  have HX := n2_
  clear n1_ n2_
  clear hi hb
  go_upto_region 5 with (fail)
  have hbd := below_alloc (Below.refl w2.heap.size w2) (.cells #[.string (⟨#[]⟩ : ByteArray), .int .i64 0] 27 (0, 0))
  have hnew : IsS27 w (w2.alloc (.cells #[.string (⟨#[]⟩ : ByteArray), .int .i64 0] 27 (0, 0))) w2.heap.size (⟨#[]⟩ : ByteArray) 0 := IsS27.new w w2 _ _ HB.out
  generalize hgr : w2.heap.size = gr at hnew ⊢
  generalize w2.alloc (.cells #[.string (⟨#[]⟩ : ByteArray), .int .i64 0] 27 (0, 0)) = w3 at hbd hnew ⊢
  have n3_ : Aside0 (Below w.heap.size w w3) := ⟨below_step HB.out hbd⟩
  have n4_ : Aside0 (IsS58 w w3 g (⟨#[]⟩ : ByteArray) 0) := ⟨IsS58.below HX.out hbd⟩
  have n5_ : Aside0 (IsS27 w w3 gr (⟨#[]⟩ : ByteArray) 0) := ⟨hnew⟩
  clear HB HX
  have HB := n3_
  have HX := n4_
  have HR := n5_
  clear n3_ n4_ n5_
  clear hbd hnew hgr
  go_wp2_with fail
  refine (load_no k1 waits bad _ _ _ _ F1.out HP.out).mono ?_
  rintro e w4 ⟨rfl, hb⟩
  have n6_ : Aside0 (Below w.heap.size w w4) := ⟨below_step HB.out hb⟩
  have n7_ : Aside0 (IsS58 w w4 g (⟨#[]⟩ : ByteArray) 0) := ⟨IsS58.below HX.out hb⟩
  have n8_ : Aside0 (IsS27 w w4 gr (⟨#[]⟩ : ByteArray) 0) := ⟨IsS27.below HR.out hb⟩
  clear HB HX HR
  have HB := n6_
  have HX := n7_
  have HR := n8_
  clear n6_ n7_ n8_
  clear hb
  go_wp2_with fail
  refine (rload_no k1 waits bad _ _ _ _ F2.out HP.out).mono ?_
  rintro e w5 ⟨rfl, hb⟩
  have n9_ : Aside0 (Below w.heap.size w w5) := ⟨below_step HB.out hb⟩
  have n10_ : Aside0 (IsS58 w w5 g (⟨#[]⟩ : ByteArray) 0) := ⟨IsS58.below HX.out hb⟩
  have n11_ : Aside0 (IsS27 w w5 gr (⟨#[]⟩ : ByteArray) 0) := ⟨IsS27.below HR.out hb⟩
  clear HB HX HR
  have HB := n9_
  have HX := n10_
  have HR := n11_
  clear n9_ n10_ n11_
  clear hb
  go_wp2_with (go_at_call 12; (with_reducible refine (num_calls 1100 _).mono ?_); rintro e w5_ ⟨rfl, rfl⟩)
  go_loopg [15] 30 (fun kq v15 w' => ∃ (i : Nat) (lx : ByteArray) (bx : Int) (ly : ByteArray) (by_ : Int), v15 = .int .i64 (i : Int) ∧ Aside0 (i + kq = 30) ∧ Aside0 (P lx bx ly by_) ∧ Aside0 (Below w.heap.size w w') ∧ Aside0 (IsS58 w w' g lx bx) ∧ Aside0 (IsS27 w w' gr lx bx))
  case atStart => exact ⟨0, _, _, waits, bad, rfl, ⟨rfl⟩, P0, HB, HX, HR⟩
  case round =>
    clear HB HX HR
    obtain ⟨i, lx, bx, ly, by_, rfl, HI, HPP, HB, HX, HR⟩ := hrel
    have hlen := HLC.out
    by_cases hgo : i < parts.length ∧ i < 30
    · obtain ⟨g1, g2⟩ := hgo
      have q1 : decide ((i : Int) < (parts.length : Int)) = true := decide_eq_true (by omega)
      have q2 : decide ((i : Int) < (30 : Int)) = true := decide_eq_true (by omega)
      have q3 : (i : Int) < (parts.length : Int) := by omega
      have q4 : (i : Int) < (30 : Int) := by omega
      have hw2 : wrap64 ((i : Int) + 1) = ((i + 1 : Nat) : Int) := by rw [wrap64_id (by omega) (by omega)]; omega
      have HW2 := Aside0.mk hw2
      clear hw2
      obtain ⟨ad, ea, hx⟩ := Kd.at_string HC.out (i : Int) (by omega) q3
      cases ea
      have her : rdOf ByteArray.empty parts (i : Int) = parts[i] := by unfold rdOf; rw [Int.toNat_natCast, List.getD_eq_getElem?_getD, List.getElem?_eq_getElem g1]; rfl
      rw [her] at hx
      simp only [Int.toNat_natCast] at hx
      obtain ⟨kk, o, l, b, z, F3, F4, F5, F6, oc, C1, C2, C3, o2, l2, b2, Y1, Y2, Y3, PN, PC⟩ := PS.out lx bx ly by_ parts[i] HPP.out (List.getElem_mem g1)
      obtain ⟨p, hp⟩ : ∃ p, parts[i] = p := ⟨_, rfl⟩
      simp only [hp] at hx F3 F4 Y1 Y2
      clear her
      have F3_ := Aside0.mk F3
      clear F3
      have F4_ := Aside0.mk F4
      clear F4
      have F5_ := Aside0.mk F5
      clear F5
      have F6_ := Aside0.mk F6
      clear F6
      have C1_ := Aside0.mk C1
      clear C1
      have C2_ := Aside0.mk C2
      clear C2
      have C3_ := Aside0.mk C3
      clear C3
      have Y1_ := Aside0.mk Y1
      clear Y1
      have Y2_ := Aside0.mk Y2
      clear Y2
      have Y3_ := Aside0.mk Y3
      clear Y3
      have PN_ := Aside0.mk PN
      clear PN
      have PC_ := Aside0.mk PC
      clear PC
      have HXC := Aside0.mk hx
      have p1 : ((0 : Int) ≤ (i : Int)) = True := eq_true (by omega)
      have p2 := eq_true q3
      have p3 : (i < parts.length) = True := eq_true g1
      go_upto_region 12 with (fail)
      refine start_ (n := 14) (S := fun w' => w'.cell? (ad.add i) = some (.string p)) (ds := []) #[false, false, false, false, false, false, false, false, false, false, false, false, false, false] (by kernel_rfl) rfl rfl ((HB.out.cell (World.block_lt_of_cell? w _ HXC.out)).trans HXC.out) (fun hHeld => ?_)
      refine with_tabW tab3_12 bits3_12 (fun HT_ HW_ => ?_)
      have hbd := below_drew1 (Below.refl wr.heap.size wr)
      generalize wr.drew = wd12 at hbd hHeld ⊢
      have n13_ : Aside0 (Below w.heap.size w wd12) := ⟨below_step HB.out hbd⟩
      have n14_ : Aside0 (IsS58 w wd12 g lx bx) := ⟨IsS58.below HX.out hbd⟩
      have n15_ : Aside0 (IsS27 w wd12 gr lx bx) := ⟨IsS27.below HR.out hbd⟩
      clear HB HX HR
      have HB := n13_
      have HX := n14_
      have HR := n15_
      clear n13_ n14_ n15_
      clear hbd
      refine pure_ (i := 0) (N := some 56) (v := ?_) (a' := ?_) #[true, false, false, false, false, false, false, false, false, false, false, false, false, false] rfl rfl (any_of HT_.out (by kernel_rfl)) (fun _ _ _ h => h) (Or.inl ⟨by rfl, ?_⟩) ?_ ?_
      rotate_left
      · intro w'
        go_simp
        with_reducible rfl
      rotate_left
      · simp only [Act.put, List.setIfInBounds_toArray, List.set_cons_zero, List.set_cons_succ, i64_w, i32_w]
        rfl
      refine pure_ (i := 1) (N := some 57) (v := ?_) (a' := ?_) #[true, true, false, false, false, false, false, false, false, false, false, false, false, false] rfl rfl (any_of HT_.out (by kernel_rfl)) (fun _ _ _ h => h) (Or.inl ⟨by rfl, ?_⟩) ?_ ?_
      rotate_left
      · intro w'
        go_simp
        with_reducible rfl
      rotate_left
      · simp only [Act.put, List.setIfInBounds_toArray, List.set_cons_zero, List.set_cons_succ, i64_w, i32_w]
        rfl
      refine pure_ (i := 2) (N := some 58) (v := ?_) (a' := ?_) #[true, true, true, false, false, false, false, false, false, false, false, false, false, false] rfl rfl (any_of HT_.out (by kernel_rfl)) (fun _ _ _ h => h) (Or.inl ⟨by rfl, ?_⟩) ?_ ?_
      rotate_left
      · intro w'
        go_simp
        with_reducible rfl
      rotate_left
      · simp only [Act.put, List.setIfInBounds_toArray, List.set_cons_zero, List.set_cons_succ, i64_w, i32_w]
        rfl
      refine pure_ (i := 3) (N := some 59) (v := ?_) (a' := ?_) #[true, true, true, true, false, false, false, false, false, false, false, false, false, false] rfl rfl (any_of HT_.out (by kernel_rfl)) (fun _ _ _ h => h) (Or.inl ⟨by rfl, ?_⟩) ?_ ?_
      rotate_left
      · intro w'
        go_simp
        with_reducible rfl
      rotate_left
      · simp only [Act.put, List.setIfInBounds_toArray, List.set_cons_zero, List.set_cons_succ, i64_w, i32_w]
        rfl
      refine take_ (i := 4) (N := some 60) (v := ?_) (a' := ?_) #[true, true, true, true, true, false, false, false, false, false, false, false, false, false] rfl rfl (take_ofW HT_.out HW_.out (by kernel_rfl)) (fun _ _ _ h => h) (Or.inl ⟨by rfl, ?_⟩) hHeld ?_ ?_
      rotate_left
      · rintro w' s0_
        go_simp
        with_reducible rfl
      rotate_left
      · simp only [Act.put, List.setIfInBounds_toArray, List.set_cons_zero, List.set_cons_succ, i64_w, i32_w]
        rfl
      refine pure_ (i := 6) (N := some 62) (v := ?_) (a' := ?_) #[true, true, true, true, true, false, true, false, false, false, false, false, false, false] rfl rfl (any_of HT_.out (by kernel_rfl)) (fun _ _ _ h => h) (Or.inl ⟨by rfl, ?_⟩) ?_ ?_
      rotate_left
      · intro w'
        go_simp
        with_reducible rfl
      rotate_left
      · simp only [Act.put, List.setIfInBounds_toArray, List.set_cons_zero, List.set_cons_succ, i64_w, i32_w]
        rfl
      refine pure_ (i := 7) (N := some 63) (v := ?_) (a' := ?_) #[true, true, true, true, true, false, true, true, false, false, false, false, false, false] rfl rfl (any_of HT_.out (by kernel_rfl)) (fun _ _ _ h => h) (Or.inl ⟨by rfl, ?_⟩) ?_ ?_
      rotate_left
      · intro w'
        go_simp
        with_reducible rfl
      rotate_left
      · simp only [Act.put, List.setIfInBounds_toArray, List.set_cons_zero, List.set_cons_succ, i64_w, i32_w]
        rfl
      refine pure_ (i := 8) (N := some 64) (v := ?_) (a' := ?_) #[true, true, true, true, true, false, true, true, true, false, false, false, false, false] rfl rfl (any_of HT_.out (by kernel_rfl)) (fun _ _ _ h => h) (Or.inl ⟨by rfl, ?_⟩) ?_ ?_
      rotate_left
      · intro w'
        go_simp
        with_reducible rfl
      rotate_left
      · simp only [Act.put, List.setIfInBounds_toArray, List.set_cons_zero, List.set_cons_succ, i64_w, i32_w]
        rfl
      refine pure_ (i := 9) (N := some 65) (v := ?_) (a' := ?_) #[true, true, true, true, true, false, true, true, true, true, false, false, false, false] rfl rfl (any_of HT_.out (by kernel_rfl)) (fun _ _ _ h => h) (Or.inl ⟨by rfl, ?_⟩) ?_ ?_
      rotate_left
      · intro w'
        go_simp
        with_reducible rfl
      rotate_left
      · simp only [Act.put, List.setIfInBounds_toArray, List.set_cons_zero, List.set_cons_succ, i64_w, i32_w]
        rfl
      refine take_ (i := 10) (N := some 66) (v := ?_) (a' := ?_) #[true, true, true, true, true, false, true, true, true, true, true, false, false, false] rfl rfl (take_ofW HT_.out HW_.out (by kernel_rfl)) (fun _ _ _ h => h) (Or.inl ⟨by rfl, ?_⟩) hHeld ?_ ?_
      rotate_left
      · rintro w' s0_
        go_simp
        with_reducible rfl
      rotate_left
      · simp only [Act.put, List.setIfInBounds_toArray, List.set_cons_zero, List.set_cons_succ, i64_w, i32_w]
        rfl
      refine one_ (i := 5) (N := some 61) #[true, true, true, true, true, true, true, true, true, true, true, false, false, false] rfl rfl (one_of HT_.out (by kernel_rfl)) (by decide) (fun K hK => ?_)
      have hbs_ := below_size HB.out
      refine goes_ Try.func13 (by kernel_rfl) rfl #[.pointer (some ⟨g, 0, none⟩), .string p] (by rfl) rfl rfl (by (try simp only [List.map_toArray, List.map_cons, List.map_nil]); first | done | rfl) ?_
      with_reducible refine (scan_Scanner_Write.calls kk g _ bx p _ _ _ w _ HX.out HB.out F3_.out).mono ?_
      rintro e wv16 ⟨va_, rfl, ho, hi, hb, hk⟩
      refine ⟨_, rfl, ?_⟩
      have n17_ : Aside0 (Below w.heap.size w wv16) := ⟨hb⟩
      have n18_ : Aside0 (IsS58 w wv16 g l b) := ⟨hi⟩
      have n19_ : Aside0 (IsS27 w wv16 gr lx bx) := ⟨rst_keepS HR.out HX.out hk⟩
      have n20_ : Aside0 (Kd.R k49 49 wv16 w.heap.size (fun _ => True) va_ o) := ⟨Kd.R_lower ho hbs_⟩
      clear HB HX HR
      have HB := n17_
      have HX := n18_
      have HR := n19_
      have RA := n20_
      clear n17_ n18_ n19_ n20_
      clear hi hb hk ho
      obtain ⟨raA, raC, rfl⟩ := Kd.R_slice RA.out
      clear hbs_
      refine hK.out _ _ ((HB.out.cell (World.block_lt_of_cell? w _ HXC.out)).trans HXC.out) (fun hHeld => ?_)
      clear hK K
      refine norm_ (a' := ?_) ?_ ?_
      rotate_left
      · show Act.put _ (some 61) _ = _
        simp only [Act.put, List.setIfInBounds_toArray, List.set_cons_zero, List.set_cons_succ, i64_w, i32_w]
        rfl
      refine one_ (i := 11) (N := some 67) #[true, true, true, true, true, true, true, true, true, true, true, true, false, false] rfl rfl (one_of HT_.out (by kernel_rfl)) (by decide) (fun K hK => ?_)
      have hbs_ := below_size HB.out
      refine goes_ Try.func14 (by kernel_rfl) rfl #[.pointer (some ⟨gr, 0, none⟩), .string p] (by rfl) rfl rfl (by (try simp only [List.map_toArray, List.map_cons, List.map_nil]); first | done | rfl) ?_
      with_reducible refine (bourneref1_Scanner_Write.calls kk gr _ bx p _ _ _ w _ HR.out HB.out F4_.out).mono ?_
      rintro e wv21 ⟨va_, rfl, ho, hi, hb, hk⟩
      refine ⟨_, rfl, ?_⟩
      have n22_ : Aside0 (Below w.heap.size w wv21) := ⟨hb⟩
      have n23_ : Aside0 (IsS58 w wv21 g l b) := ⟨st_keepR HX.out HR.out hk⟩
      have n24_ : Aside0 (IsS27 w wv21 gr l b) := ⟨hi⟩
      have n25_ : Aside0 (Kd.R k49 49 wv21 w.heap.size (fun _ => True) (.slice raA o.length raC) o) := ⟨rw_keepR RA.out HR.out hk⟩
      have n26_ : Aside0 (Kd.R k49 49 wv21 w.heap.size (fun _ => True) va_ o) := ⟨Kd.R_lower ho hbs_⟩
      clear HB HX HR RA
      have HB := n22_
      have HX := n23_
      have HR := n24_
      have RA := n25_
      have RB := n26_
      clear n22_ n23_ n24_ n25_ n26_
      clear hi hb hk ho
      obtain ⟨rbA, rbC, rfl⟩ := Kd.R_slice RB.out
      clear hbs_
      refine hK.out _ _ ((HB.out.cell (World.block_lt_of_cell? w _ HXC.out)).trans HXC.out) (fun hHeld => ?_)
      clear hK K
      refine norm_ (a' := ?_) ?_ ?_
      rotate_left
      · show Act.put _ (some 67) _ = _
        simp only [Act.put, List.setIfInBounds_toArray, List.set_cons_zero, List.set_cons_succ, i64_w, i32_w]
        rfl
      refine pure_ (i := 12) (N := some 16) (v := ?_) (a' := ?_) #[true, true, true, true, true, true, true, true, true, true, true, true, true, false] rfl rfl (any_of HT_.out (by kernel_rfl)) (fun _ _ _ h => h) (Or.inl ⟨by rfl, ?_⟩) ?_ ?_
      rotate_left
      · intro w'
        go_simp
        with_reducible rfl
      rotate_left
      · simp only [Act.put, List.setIfInBounds_toArray, List.set_cons_zero, List.set_cons_succ, i64_w, i32_w]
        rfl
      refine pure_ (i := 13) (N := some 17) (v := ?_) (a' := ?_) #[true, true, true, true, true, true, true, true, true, true, true, true, true, true] rfl rfl (any_of HT_.out (by kernel_rfl)) (fun _ _ _ h => h) (Or.inl ⟨by rfl, ?_⟩) ?_ ?_
      rotate_left
      · intro w'
        go_simp
        with_reducible rfl
      rotate_left
      · simp only [Act.put, List.setIfInBounds_toArray, List.set_cons_zero, List.set_cons_succ, i64_w, i32_w]
        rfl
      refine done_ (done_of HT_.out (by kernel_rfl)) ?_
      go_upto_region 13 with (fail)
      refine start_ (n := 22) (S := fun w' => w'.cell? ⟨gr, 0, none⟩ = some (.string l) ∧ w'.cell? ⟨gr, 1, none⟩ = some (.int .i64 b)) (ds := []) #[false, false, false, false, false, false, false, false, false, false, false, false, false, false, false, false, false, false, false, false, false, false] (by kernel_rfl) rfl rfl (⟨cellS27_0 HR.out.1, cellS27_1 HR.out.1⟩) (fun hHeld => ?_)
      refine with_tabW tab3_13 bits3_13 (fun HT_ HW_ => ?_)
      have hbd := below_drew1 (Below.refl wv21.heap.size wv21)
      generalize wv21.drew = wd27 at hbd hHeld ⊢
      have n28_ : Aside0 (Below w.heap.size w wd27) := ⟨below_step HB.out hbd⟩
      have n29_ : Aside0 (IsS58 w wd27 g l b) := ⟨IsS58.below HX.out hbd⟩
      have n30_ : Aside0 (IsS27 w wd27 gr l b) := ⟨IsS27.below HR.out hbd⟩
      have n31_ : Aside0 (Kd.R k49 49 wd27 w.heap.size (fun _ => True) (.slice raA o.length raC) o) := ⟨Kd.R_below RA.out hbd⟩
      have n32_ : Aside0 (Kd.R k49 49 wd27 w.heap.size (fun _ => True) (.slice rbA o.length rbC) o) := ⟨Kd.R_below RB.out hbd⟩
      clear HB HX HR RA RB
      have HB := n28_
      have HX := n29_
      have HR := n30_
      have RA := n31_
      have RB := n32_
      clear n28_ n29_ n30_ n31_ n32_
      clear hbd
      refine pure_ (i := 0) (N := some 68) (v := ?_) (a' := ?_) #[true, false, false, false, false, false, false, false, false, false, false, false, false, false, false, false, false, false, false, false, false, false] rfl rfl (any_of HT_.out (by kernel_rfl)) (fun _ _ _ h => h) (Or.inl ⟨by rfl, ?_⟩) ?_ ?_
      rotate_left
      · intro w'
        go_simp
        with_reducible rfl
      rotate_left
      · simp only [Act.put, List.setIfInBounds_toArray, List.set_cons_zero, List.set_cons_succ, i64_w, i32_w]
        rfl
      refine pure_ (i := 1) (N := some 69) (v := ?_) (a' := ?_) #[true, true, false, false, false, false, false, false, false, false, false, false, false, false, false, false, false, false, false, false, false, false] rfl rfl (any_of HT_.out (by kernel_rfl)) (fun _ _ _ h => h) (Or.inl ⟨by rfl, ?_⟩) ?_ ?_
      rotate_left
      · intro w'
        go_simp
        with_reducible rfl
      rotate_left
      · simp only [Act.put, List.setIfInBounds_toArray, List.set_cons_zero, List.set_cons_succ, i64_w, i32_w]
        rfl
      refine one_ (i := 2) (N := some 70) #[true, true, true, false, false, false, false, false, false, false, false, false, false, false, false, false, false, false, false, false, false, false] rfl rfl (one_of HT_.out (by kernel_rfl)) (by decide) (fun K hK => ?_)
      obtain ⟨_, hc0, hC0⟩ := Kd.R_reads' RA.out
      obtain ⟨_, hc1, hC1⟩ := Kd.R_reads' RB.out
      refine goes_ Try.func15 (by kernel_rfl) rfl #[.slice raA o.length raC, .slice rbA o.length rbC] (by rfl) rfl rfl (by (try simp only [List.map_toArray, List.map_cons, List.map_nil]); first | done | rfl) ?_
      with_reducible refine (same_calls kk _ _ o _ _ o true _ hC0 hc0 hC1 hc1 F5_.out).mono ?_
      rintro e ws33 ⟨rfl, hb⟩
      refine ⟨_, rfl, ?_⟩
      clear hc0 hC0 hc1 hC1
      have n34_ : Aside0 (Below w.heap.size w ws33) := ⟨below_step HB.out hb⟩
      have n35_ : Aside0 (IsS58 w ws33 g l b) := ⟨IsS58.below HX.out hb⟩
      have n36_ : Aside0 (IsS27 w ws33 gr l b) := ⟨IsS27.below HR.out hb⟩
      have n37_ : Aside0 (Kd.R k49 49 ws33 w.heap.size (fun _ => True) (.slice raA o.length raC) o) := ⟨Kd.R_below RA.out hb⟩
      have n38_ : Aside0 (Kd.R k49 49 ws33 w.heap.size (fun _ => True) (.slice rbA o.length rbC) o) := ⟨Kd.R_below RB.out hb⟩
      clear HB HX HR RA RB
      have HB := n34_
      have HX := n35_
      have HR := n36_
      have RA := n37_
      have RB := n38_
      clear n34_ n35_ n36_ n37_ n38_
      clear hb
      refine hK.out _ _ (⟨cellS27_0 HR.out.1, cellS27_1 HR.out.1⟩) (fun hHeld => ?_)
      clear hK K
      refine norm_ (a' := ?_) ?_ ?_
      rotate_left
      · show Act.put _ (some 70) _ = _
        simp only [Act.put, List.setIfInBounds_toArray, List.set_cons_zero, List.set_cons_succ, i64_w, i32_w]
        rfl
      refine pure_ (i := 3) (N := some 71) (v := ?_) (a' := ?_) #[true, true, true, true, false, false, false, false, false, false, false, false, false, false, false, false, false, false, false, false, false, false] rfl rfl (any_of HT_.out (by kernel_rfl)) (fun _ _ _ h => h) (Or.inl ⟨by rfl, ?_⟩) ?_ ?_
      rotate_left
      · intro w'
        go_simp
        with_reducible rfl
      rotate_left
      · simp only [Act.put, List.setIfInBounds_toArray, List.set_cons_zero, List.set_cons_succ, i64_w, i32_w]
        rfl
      refine pure_ (i := 4) (N := some 72) (v := ?_) (a' := ?_) #[true, true, true, true, true, false, false, false, false, false, false, false, false, false, false, false, false, false, false, false, false, false] rfl rfl (any_of HT_.out (by kernel_rfl)) (fun _ _ _ h => h) (Or.inl ⟨by rfl, ?_⟩) ?_ ?_
      rotate_left
      · intro w'
        go_simp
        with_reducible rfl
      rotate_left
      · simp only [Act.put, List.setIfInBounds_toArray, List.set_cons_zero, List.set_cons_succ, i64_w, i32_w]
        rfl
      refine pure_ (i := 5) (N := some 73) (v := ?_) (a' := ?_) #[true, true, true, true, true, true, false, false, false, false, false, false, false, false, false, false, false, false, false, false, false, false] rfl rfl (any_of HT_.out (by kernel_rfl)) (fun _ _ _ h => h) (Or.inl ⟨by rfl, ?_⟩) ?_ ?_
      rotate_left
      · intro w'
        go_simp
        with_reducible rfl
      rotate_left
      · simp only [Act.put, List.setIfInBounds_toArray, List.set_cons_zero, List.set_cons_succ, i64_w, i32_w]
        rfl
      refine pure_ (i := 7) (N := some 75) (v := ?_) (a' := ?_) #[true, true, true, true, true, true, false, true, false, false, false, false, false, false, false, false, false, false, false, false, false, false] rfl rfl (any_of HT_.out (by kernel_rfl)) (fun _ _ _ h => h) (Or.inl ⟨by rfl, ?_⟩) ?_ ?_
      rotate_left
      · intro w'
        go_simp
        with_reducible rfl
      rotate_left
      · simp only [Act.put, List.setIfInBounds_toArray, List.set_cons_zero, List.set_cons_succ, i64_w, i32_w]
        rfl
      refine pure_ (i := 8) (N := some 76) (v := ?_) (a' := ?_) #[true, true, true, true, true, true, false, true, true, false, false, false, false, false, false, false, false, false, false, false, false, false] rfl rfl (any_of HT_.out (by kernel_rfl)) (fun _ _ _ h => h) (Or.inl ⟨by rfl, ?_⟩) ?_ ?_
      rotate_left
      · intro w'
        go_simp
        with_reducible rfl
      rotate_left
      · simp only [Act.put, List.setIfInBounds_toArray, List.set_cons_zero, List.set_cons_succ, i64_w, i32_w]
        rfl
      refine pure_ (i := 9) (N := some 77) (v := ?_) (a' := ?_) #[true, true, true, true, true, true, false, true, true, true, false, false, false, false, false, false, false, false, false, false, false, false] rfl rfl (any_of HT_.out (by kernel_rfl)) (fun _ _ _ h => h) (Or.inl ⟨by rfl, ?_⟩) ?_ ?_
      rotate_left
      · intro w'
        go_simp
        with_reducible rfl
      rotate_left
      · simp only [Act.put, List.setIfInBounds_toArray, List.set_cons_zero, List.set_cons_succ, i64_w, i32_w]
        rfl
      refine take_ (i := 10) (N := some 78) (v := ?_) (a' := ?_) #[true, true, true, true, true, true, false, true, true, true, true, false, false, false, false, false, false, false, false, false, false, false] rfl rfl (take_ofW HT_.out HW_.out (by kernel_rfl)) (fun _ _ _ h => h) (Or.inl ⟨by rfl, ?_⟩) hHeld ?_ ?_
      rotate_left
      · rintro w' ⟨s0_, s1_⟩
        go_simp
        with_reducible rfl
      rotate_left
      · simp only [Act.put, List.setIfInBounds_toArray, List.set_cons_zero, List.set_cons_succ, i64_w, i32_w]
        rfl
      refine one_ (i := 6) (N := some 74) #[true, true, true, true, true, true, true, true, true, true, true, false, false, false, false, false, false, false, false, false, false, false] rfl rfl (one_of HT_.out (by kernel_rfl)) (by decide) (fun K hK => ?_)
      have hbs_ := below_size HB.out
      refine goes_ Try.func16 (by kernel_rfl) rfl #[.pointer (some ⟨g, 0, none⟩)] (by rfl) rfl rfl (by (try simp only [List.map_toArray, List.map_cons, List.map_nil]); first | done | rfl) ?_
      with_reducible refine (scan_Scanner_Waits.calls g _ _ _ _ _ w _ HX.out HB.out rfl).mono ?_
      rintro e wv39 ⟨rfl, hi, hb, hk⟩
      refine ⟨_, rfl, ?_⟩
      have n40_ : Aside0 (Below w.heap.size w wv39) := ⟨hb⟩
      have n41_ : Aside0 (IsS58 w wv39 g l b) := ⟨hi⟩
      have n42_ : Aside0 (IsS27 w wv39 gr l b) := ⟨rst_keepS HR.out HX.out hk⟩
      have n43_ : Aside0 (Kd.R k49 49 wv39 w.heap.size (fun _ => True) (.slice raA o.length raC) o) := ⟨rw_keep RA.out HX.out hk⟩
      have n44_ : Aside0 (Kd.R k49 49 wv39 w.heap.size (fun _ => True) (.slice rbA o.length rbC) o) := ⟨rw_keep RB.out HX.out hk⟩
      clear HB HX HR RA RB
      have HB := n40_
      have HX := n41_
      have HR := n42_
      have RA := n43_
      have RB := n44_
      clear n40_ n41_ n42_ n43_ n44_
      clear hi hb hk
      clear hbs_
      refine hK.out _ _ (⟨cellS27_0 HR.out.1, cellS27_1 HR.out.1⟩) (fun hHeld => ?_)
      clear hK K
      refine norm_ (a' := ?_) ?_ ?_
      rotate_left
      · show Act.put _ (some 74) _ = _
        simp only [Act.put, List.setIfInBounds_toArray, List.set_cons_zero, List.set_cons_succ, i64_w, i32_w]
        rfl
      refine pure_ (i := 11) (N := some 79) (v := ?_) (a' := ?_) #[true, true, true, true, true, true, true, true, true, true, true, true, false, false, false, false, false, false, false, false, false, false] rfl rfl (any_of HT_.out (by kernel_rfl)) (fun _ _ _ h => h) (Or.inl ⟨by rfl, ?_⟩) ?_ ?_
      rotate_left
      · intro w'
        go_simp
        with_reducible rfl
      rotate_left
      · simp only [Act.put, List.setIfInBounds_toArray, List.set_cons_zero, List.set_cons_succ, i64_w, i32_w]
        rfl
      refine pure_ (i := 12) (N := some 80) (v := ?_) (a' := ?_) #[true, true, true, true, true, true, true, true, true, true, true, true, true, false, false, false, false, false, false, false, false, false] rfl rfl (any_of HT_.out (by kernel_rfl)) (fun _ _ _ h => h) (Or.inl ⟨by rfl, ?_⟩) ?_ ?_
      rotate_left
      · intro w'
        go_simp
        with_reducible rfl
      rotate_left
      · simp only [Act.put, List.setIfInBounds_toArray, List.set_cons_zero, List.set_cons_succ, i64_w, i32_w]
        rfl
      refine pure_ (i := 13) (N := some 81) (v := ?_) (a' := ?_) #[true, true, true, true, true, true, true, true, true, true, true, true, true, true, false, false, false, false, false, false, false, false] rfl rfl (any_of HT_.out (by kernel_rfl)) (fun _ _ _ h => h) (Or.inl ⟨by rfl, ?_⟩) ?_ ?_
      rotate_left
      · intro w'
        go_simp
        with_reducible rfl
      rotate_left
      · simp only [Act.put, List.setIfInBounds_toArray, List.set_cons_zero, List.set_cons_succ, i64_w, i32_w]
        rfl
      refine pure_ (i := 14) (N := some 82) (v := ?_) (a' := ?_) #[true, true, true, true, true, true, true, true, true, true, true, true, true, true, true, false, false, false, false, false, false, false] rfl rfl (any_of HT_.out (by kernel_rfl)) (fun _ _ _ h => h) (Or.inl ⟨by rfl, ?_⟩) ?_ ?_
      rotate_left
      · intro w'
        go_simp
        with_reducible rfl
      rotate_left
      · simp only [Act.put, List.setIfInBounds_toArray, List.set_cons_zero, List.set_cons_succ, i64_w, i32_w]
        rfl
      refine pure_ (i := 16) (N := some 84) (v := ?_) (a' := ?_) #[true, true, true, true, true, true, true, true, true, true, true, true, true, true, true, false, true, false, false, false, false, false] rfl rfl (any_of HT_.out (by kernel_rfl)) (fun _ _ _ h => h) (Or.inl ⟨by rfl, ?_⟩) ?_ ?_
      rotate_left
      · intro w'
        go_simp
        with_reducible rfl
      rotate_left
      · simp only [Act.put, List.setIfInBounds_toArray, List.set_cons_zero, List.set_cons_succ, i64_w, i32_w]
        rfl
      refine pure_ (i := 17) (N := some 85) (v := ?_) (a' := ?_) #[true, true, true, true, true, true, true, true, true, true, true, true, true, true, true, false, true, true, false, false, false, false] rfl rfl (any_of HT_.out (by kernel_rfl)) (fun _ _ _ h => h) (Or.inl ⟨by rfl, ?_⟩) ?_ ?_
      rotate_left
      · intro w'
        go_simp
        with_reducible rfl
      rotate_left
      · simp only [Act.put, List.setIfInBounds_toArray, List.set_cons_zero, List.set_cons_succ, i64_w, i32_w]
        rfl
      refine pure_ (i := 18) (N := some 86) (v := ?_) (a' := ?_) #[true, true, true, true, true, true, true, true, true, true, true, true, true, true, true, false, true, true, true, false, false, false] rfl rfl (any_of HT_.out (by kernel_rfl)) (fun _ _ _ h => h) (Or.inl ⟨by rfl, ?_⟩) ?_ ?_
      rotate_left
      · intro w'
        go_simp
        with_reducible rfl
      rotate_left
      · simp only [Act.put, List.setIfInBounds_toArray, List.set_cons_zero, List.set_cons_succ, i64_w, i32_w]
        rfl
      refine take_ (i := 19) (N := some 87) (v := ?_) (a' := ?_) #[true, true, true, true, true, true, true, true, true, true, true, true, true, true, true, false, true, true, true, true, false, false] rfl rfl (take_ofW HT_.out HW_.out (by kernel_rfl)) (fun _ _ _ h => h) (Or.inl ⟨by rfl, ?_⟩) hHeld ?_ ?_
      rotate_left
      · rintro w' ⟨s0_, s1_⟩
        go_simp
        with_reducible rfl
      rotate_left
      · simp only [Act.put, List.setIfInBounds_toArray, List.set_cons_zero, List.set_cons_succ, i64_w, i32_w]
        rfl
      refine one_ (i := 15) (N := some 83) #[true, true, true, true, true, true, true, true, true, true, true, true, true, true, true, true, true, true, true, true, false, false] rfl rfl (one_of HT_.out (by kernel_rfl)) (by decide) (fun K hK => ?_)
      have hbs_ := below_size HB.out
      refine goes_ Try.func17 (by kernel_rfl) rfl #[.pointer (some ⟨g, 0, none⟩)] (by rfl) rfl rfl (by (try simp only [List.map_toArray, List.map_cons, List.map_nil]); first | done | rfl) ?_
      with_reducible refine (scan_Scanner_Bad.calls g _ _ _ _ _ w _ HX.out HB.out rfl).mono ?_
      rintro e wv45 ⟨rfl, hi, hb, hk⟩
      refine ⟨_, rfl, ?_⟩
      have n46_ : Aside0 (Below w.heap.size w wv45) := ⟨hb⟩
      have n47_ : Aside0 (IsS58 w wv45 g l b) := ⟨hi⟩
      have n48_ : Aside0 (IsS27 w wv45 gr l b) := ⟨rst_keepS HR.out HX.out hk⟩
      have n49_ : Aside0 (Kd.R k49 49 wv45 w.heap.size (fun _ => True) (.slice raA o.length raC) o) := ⟨rw_keep RA.out HX.out hk⟩
      have n50_ : Aside0 (Kd.R k49 49 wv45 w.heap.size (fun _ => True) (.slice rbA o.length rbC) o) := ⟨rw_keep RB.out HX.out hk⟩
      clear HB HX HR RA RB
      have HB := n46_
      have HX := n47_
      have HR := n48_
      have RA := n49_
      have RB := n50_
      clear n46_ n47_ n48_ n49_ n50_
      clear hi hb hk
      clear hbs_
      refine hK.out _ _ (⟨cellS27_0 HR.out.1, cellS27_1 HR.out.1⟩) (fun hHeld => ?_)
      clear hK K
      refine norm_ (a' := ?_) ?_ ?_
      rotate_left
      · show Act.put _ (some 83) _ = _
        simp only [Act.put, List.setIfInBounds_toArray, List.set_cons_zero, List.set_cons_succ, i64_w, i32_w]
        rfl
      refine pure_ (i := 20) (N := some 88) (v := ?_) (a' := ?_) #[true, true, true, true, true, true, true, true, true, true, true, true, true, true, true, true, true, true, true, true, true, false] rfl rfl (any_of HT_.out (by kernel_rfl)) (fun _ _ _ h => h) (Or.inl ⟨by rfl, ?_⟩) ?_ ?_
      rotate_left
      · intro w'
        go_simp
        with_reducible rfl
      rotate_left
      · simp only [Act.put, List.setIfInBounds_toArray, List.set_cons_zero, List.set_cons_succ, i64_w, i32_w]
        rfl
      refine pure_ (i := 21) (N := some 89) (v := ?_) (a' := ?_) #[true, true, true, true, true, true, true, true, true, true, true, true, true, true, true, true, true, true, true, true, true, true] rfl rfl (any_of HT_.out (by kernel_rfl)) (fun _ _ _ h => h) (Or.inl ⟨by rfl, ?_⟩) ?_ ?_
      rotate_left
      · intro w'
        go_simp
        with_reducible rfl
      rotate_left
      · simp only [Act.put, List.setIfInBounds_toArray, List.set_cons_zero, List.set_cons_succ, i64_w, i32_w]
        rfl
      refine done_ (done_of HT_.out (by kernel_rfl)) ?_
      go_wp2_with fail
      refine (bournelaw0_SpoilOps.calls kk (fun k_ => some k_ = (Value.slice raA o.length raC).ownBlock) _ o z w _ HB.out (Kd.R_tight rfl RA.out) F6_.out).mono ?_
      rintro e w20 ⟨rfl, -, hb, hk⟩
      have HRA := RA
      clear RB
      have n51_ : Aside0 (Below w.heap.size w w20) := ⟨hb⟩
      have n52_ : Aside0 (IsS58 w w20 g l b) := ⟨IsS58.kept HX.out hk (fun e => IsS58.own_ne HX.out RA.out (by decide) e)⟩
      have n53_ : Aside0 (IsS27 w w20 gr l b) := ⟨IsS27.kept HR.out hk (fun e => IsS27.own_ne HR.out RA.out (by decide) e)⟩
      clear HB HX HR
      have HB := n51_
      have HX := n52_
      have HR := n53_
      clear n51_ n52_ n53_
      clear hb hk RA HRA
      go_upto_region 16 with (fail)
      refine start_ (n := 36) (S := fun w' => True) (ds := []) #[false, false, false, false, false, false, false, false, false, false, false, false, false, false, false, false, false, false, false, false, false, false, false, false, false, false, false, false, false, false, false, false, false, false, false, false] (by kernel_rfl) rfl rfl (trivial) (fun hHeld => ?_)
      refine with_tabW tab3_16 bits3_16 (fun HT_ HW_ => ?_)
      have hbd := below_drew1 (Below.refl w20.heap.size w20)
      generalize w20.drew = wd54 at hbd hHeld ⊢
      have n55_ : Aside0 (Below w.heap.size w wd54) := ⟨below_step HB.out hbd⟩
      have n56_ : Aside0 (IsS58 w wd54 g l b) := ⟨IsS58.below HX.out hbd⟩
      have n57_ : Aside0 (IsS27 w wd54 gr l b) := ⟨IsS27.below HR.out hbd⟩
      clear HB HX HR
      have HB := n55_
      have HX := n56_
      have HR := n57_
      clear n55_ n56_ n57_
      clear hbd
      refine pure_ (i := 0) (N := some 92) (v := ?_) (a' := ?_) #[true, false, false, false, false, false, false, false, false, false, false, false, false, false, false, false, false, false, false, false, false, false, false, false, false, false, false, false, false, false, false, false, false, false, false, false] rfl rfl (any_of HT_.out (by kernel_rfl)) (fun _ _ _ h => h) (Or.inl ⟨by rfl, ?_⟩) ?_ ?_
      rotate_left
      · intro w'
        go_simp
        with_reducible rfl
      rotate_left
      · simp only [Act.put, List.setIfInBounds_toArray, List.set_cons_zero, List.set_cons_succ, i64_w, i32_w]
        rfl
      refine pure_ (i := 1) (N := some 93) (v := ?_) (a' := ?_) #[true, true, false, false, false, false, false, false, false, false, false, false, false, false, false, false, false, false, false, false, false, false, false, false, false, false, false, false, false, false, false, false, false, false, false, false] rfl rfl (any_of HT_.out (by kernel_rfl)) (fun _ _ _ h => h) (Or.inl ⟨by rfl, ?_⟩) ?_ ?_
      rotate_left
      · intro w'
        go_simp
        with_reducible rfl
      rotate_left
      · simp only [Act.put, List.setIfInBounds_toArray, List.set_cons_zero, List.set_cons_succ, i64_w, i32_w]
        rfl
      refine pure_ (i := 2) (N := some 94) (v := ?_) (a' := ?_) #[true, true, true, false, false, false, false, false, false, false, false, false, false, false, false, false, false, false, false, false, false, false, false, false, false, false, false, false, false, false, false, false, false, false, false, false] rfl rfl (any_of HT_.out (by kernel_rfl)) (fun _ _ _ h => h) (Or.inl ⟨by rfl, ?_⟩) ?_ ?_
      rotate_left
      · intro w'
        go_simp
        with_reducible rfl
      rotate_left
      · simp only [Act.put, List.setIfInBounds_toArray, List.set_cons_zero, List.set_cons_succ, i64_w, i32_w]
        rfl
      refine pure_ (i := 3) (N := some 95) (v := undef) (a' := ?_) #[true, true, true, true, false, false, false, false, false, false, false, false, false, false, false, false, false, false, false, false, false, false, false, false, false, false, false, false, false, false, false, false, false, false, false, false] rfl rfl (any_of HT_.out (by kernel_rfl)) (fun _ _ _ h => h) (Or.inr ⟨by rfl, rfl⟩) ?_ ?_
      rotate_left
      · simp only [Act.put, List.setIfInBounds_toArray, List.set_cons_zero, List.set_cons_succ, i64_w, i32_w]
        rfl
      refine pure_ (i := 4) (N := some 96) (v := undef) (a' := ?_) #[true, true, true, true, true, false, false, false, false, false, false, false, false, false, false, false, false, false, false, false, false, false, false, false, false, false, false, false, false, false, false, false, false, false, false, false] rfl rfl (any_of HT_.out (by kernel_rfl)) (fun _ _ _ h => h) (Or.inr ⟨by rfl, rfl⟩) ?_ ?_
      rotate_left
      · simp only [Act.put, List.setIfInBounds_toArray, List.set_cons_zero, List.set_cons_succ, i64_w, i32_w]
        rfl
      refine pure_ (i := 5) (N := some 97) (v := undef) (a' := ?_) #[true, true, true, true, true, true, false, false, false, false, false, false, false, false, false, false, false, false, false, false, false, false, false, false, false, false, false, false, false, false, false, false, false, false, false, false] rfl rfl (any_of HT_.out (by kernel_rfl)) (fun _ _ _ h => h) (Or.inr ⟨by rfl, rfl⟩) ?_ ?_
      rotate_left
      · simp only [Act.put, List.setIfInBounds_toArray, List.set_cons_zero, List.set_cons_succ, i64_w, i32_w]
        rfl
      refine pure_ (i := 6) (N := some 98) (v := undef) (a' := ?_) #[true, true, true, true, true, true, true, false, false, false, false, false, false, false, false, false, false, false, false, false, false, false, false, false, false, false, false, false, false, false, false, false, false, false, false, false] rfl rfl (any_of HT_.out (by kernel_rfl)) (fun _ _ _ h => h) (Or.inr ⟨by rfl, rfl⟩) ?_ ?_
      rotate_left
      · simp only [Act.put, List.setIfInBounds_toArray, List.set_cons_zero, List.set_cons_succ, i64_w, i32_w]
        rfl
      refine pure_ (i := 7) (N := some 99) (v := undef) (a' := ?_) #[true, true, true, true, true, true, true, true, false, false, false, false, false, false, false, false, false, false, false, false, false, false, false, false, false, false, false, false, false, false, false, false, false, false, false, false] rfl rfl (any_of HT_.out (by kernel_rfl)) (fun _ _ _ h => h) (Or.inr ⟨by rfl, rfl⟩) ?_ ?_
      rotate_left
      · simp only [Act.put, List.setIfInBounds_toArray, List.set_cons_zero, List.set_cons_succ, i64_w, i32_w]
        rfl
      refine pure_ (i := 8) (N := some 100) (v := undef) (a' := ?_) #[true, true, true, true, true, true, true, true, true, false, false, false, false, false, false, false, false, false, false, false, false, false, false, false, false, false, false, false, false, false, false, false, false, false, false, false] rfl rfl (any_of HT_.out (by kernel_rfl)) (fun _ _ _ h => h) (Or.inr ⟨by rfl, rfl⟩) ?_ ?_
      rotate_left
      · simp only [Act.put, List.setIfInBounds_toArray, List.set_cons_zero, List.set_cons_succ, i64_w, i32_w]
        rfl
      refine pure_ (i := 9) (N := some 101) (v := undef) (a' := ?_) #[true, true, true, true, true, true, true, true, true, true, false, false, false, false, false, false, false, false, false, false, false, false, false, false, false, false, false, false, false, false, false, false, false, false, false, false] rfl rfl (any_of HT_.out (by kernel_rfl)) (fun _ _ _ h => h) (Or.inr ⟨by rfl, rfl⟩) ?_ ?_
      rotate_left
      · simp only [Act.put, List.setIfInBounds_toArray, List.set_cons_zero, List.set_cons_succ, i64_w, i32_w]
        rfl
      refine pure_ (i := 10) (N := some 102) (v := undef) (a' := ?_) #[true, true, true, true, true, true, true, true, true, true, true, false, false, false, false, false, false, false, false, false, false, false, false, false, false, false, false, false, false, false, false, false, false, false, false, false] rfl rfl (any_of HT_.out (by kernel_rfl)) (fun _ _ _ h => h) (Or.inr ⟨by rfl, rfl⟩) ?_ ?_
      rotate_left
      · simp only [Act.put, List.setIfInBounds_toArray, List.set_cons_zero, List.set_cons_succ, i64_w, i32_w]
        rfl
      refine pure_ (i := 11) (N := some 103) (v := undef) (a' := ?_) #[true, true, true, true, true, true, true, true, true, true, true, true, false, false, false, false, false, false, false, false, false, false, false, false, false, false, false, false, false, false, false, false, false, false, false, false] rfl rfl (any_of HT_.out (by kernel_rfl)) (fun _ _ _ h => h) (Or.inr ⟨by rfl, rfl⟩) ?_ ?_
      rotate_left
      · simp only [Act.put, List.setIfInBounds_toArray, List.set_cons_zero, List.set_cons_succ, i64_w, i32_w]
        rfl
      refine pure_ (i := 12) (N := some 104) (v := undef) (a' := ?_) #[true, true, true, true, true, true, true, true, true, true, true, true, true, false, false, false, false, false, false, false, false, false, false, false, false, false, false, false, false, false, false, false, false, false, false, false] rfl rfl (any_of HT_.out (by kernel_rfl)) (fun _ _ _ h => h) (Or.inr ⟨by rfl, rfl⟩) ?_ ?_
      rotate_left
      · simp only [Act.put, List.setIfInBounds_toArray, List.set_cons_zero, List.set_cons_succ, i64_w, i32_w]
        rfl
      refine pure_ (i := 13) (N := some 105) (v := undef) (a' := ?_) #[true, true, true, true, true, true, true, true, true, true, true, true, true, true, false, false, false, false, false, false, false, false, false, false, false, false, false, false, false, false, false, false, false, false, false, false] rfl rfl (any_of HT_.out (by kernel_rfl)) (fun _ _ _ h => h) (Or.inr ⟨by rfl, rfl⟩) ?_ ?_
      rotate_left
      · simp only [Act.put, List.setIfInBounds_toArray, List.set_cons_zero, List.set_cons_succ, i64_w, i32_w]
        rfl
      refine pure_ (i := 14) (N := some 106) (v := undef) (a' := ?_) #[true, true, true, true, true, true, true, true, true, true, true, true, true, true, true, false, false, false, false, false, false, false, false, false, false, false, false, false, false, false, false, false, false, false, false, false] rfl rfl (any_of HT_.out (by kernel_rfl)) (fun _ _ _ h => h) (Or.inr ⟨by rfl, rfl⟩) ?_ ?_
      rotate_left
      · simp only [Act.put, List.setIfInBounds_toArray, List.set_cons_zero, List.set_cons_succ, i64_w, i32_w]
        rfl
      refine pure_ (i := 15) (N := some 107) (v := undef) (a' := ?_) #[true, true, true, true, true, true, true, true, true, true, true, true, true, true, true, true, false, false, false, false, false, false, false, false, false, false, false, false, false, false, false, false, false, false, false, false] rfl rfl (any_of HT_.out (by kernel_rfl)) (fun _ _ _ h => h) (Or.inr ⟨by rfl, rfl⟩) ?_ ?_
      rotate_left
      · simp only [Act.put, List.setIfInBounds_toArray, List.set_cons_zero, List.set_cons_succ, i64_w, i32_w]
        rfl
      refine pure_ (i := 16) (N := some 108) (v := undef) (a' := ?_) #[true, true, true, true, true, true, true, true, true, true, true, true, true, true, true, true, true, false, false, false, false, false, false, false, false, false, false, false, false, false, false, false, false, false, false, false] rfl rfl (any_of HT_.out (by kernel_rfl)) (fun _ _ _ h => h) (Or.inr ⟨by rfl, rfl⟩) ?_ ?_
      rotate_left
      · simp only [Act.put, List.setIfInBounds_toArray, List.set_cons_zero, List.set_cons_succ, i64_w, i32_w]
        rfl
      refine pure_ (i := 17) (N := some 109) (v := undef) (a' := ?_) #[true, true, true, true, true, true, true, true, true, true, true, true, true, true, true, true, true, true, false, false, false, false, false, false, false, false, false, false, false, false, false, false, false, false, false, false] rfl rfl (any_of HT_.out (by kernel_rfl)) (fun _ _ _ h => h) (Or.inr ⟨by rfl, rfl⟩) ?_ ?_
      rotate_left
      · simp only [Act.put, List.setIfInBounds_toArray, List.set_cons_zero, List.set_cons_succ, i64_w, i32_w]
        rfl
      refine pure_ (i := 18) (N := some 110) (v := undef) (a' := ?_) #[true, true, true, true, true, true, true, true, true, true, true, true, true, true, true, true, true, true, true, false, false, false, false, false, false, false, false, false, false, false, false, false, false, false, false, false] rfl rfl (any_of HT_.out (by kernel_rfl)) (fun _ _ _ h => h) (Or.inr ⟨by rfl, rfl⟩) ?_ ?_
      rotate_left
      · simp only [Act.put, List.setIfInBounds_toArray, List.set_cons_zero, List.set_cons_succ, i64_w, i32_w]
        rfl
      refine pure_ (i := 19) (N := some 111) (v := undef) (a' := ?_) #[true, true, true, true, true, true, true, true, true, true, true, true, true, true, true, true, true, true, true, true, false, false, false, false, false, false, false, false, false, false, false, false, false, false, false, false] rfl rfl (any_of HT_.out (by kernel_rfl)) (fun _ _ _ h => h) (Or.inr ⟨by rfl, rfl⟩) ?_ ?_
      rotate_left
      · simp only [Act.put, List.setIfInBounds_toArray, List.set_cons_zero, List.set_cons_succ, i64_w, i32_w]
        rfl
      refine pure_ (i := 20) (N := some 112) (v := undef) (a' := ?_) #[true, true, true, true, true, true, true, true, true, true, true, true, true, true, true, true, true, true, true, true, true, false, false, false, false, false, false, false, false, false, false, false, false, false, false, false] rfl rfl (any_of HT_.out (by kernel_rfl)) (fun _ _ _ h => h) (Or.inr ⟨by rfl, rfl⟩) ?_ ?_
      rotate_left
      · simp only [Act.put, List.setIfInBounds_toArray, List.set_cons_zero, List.set_cons_succ, i64_w, i32_w]
        rfl
      refine pure_ (i := 21) (N := some 113) (v := undef) (a' := ?_) #[true, true, true, true, true, true, true, true, true, true, true, true, true, true, true, true, true, true, true, true, true, true, false, false, false, false, false, false, false, false, false, false, false, false, false, false] rfl rfl (any_of HT_.out (by kernel_rfl)) (fun _ _ _ h => h) (Or.inr ⟨by rfl, rfl⟩) ?_ ?_
      rotate_left
      · simp only [Act.put, List.setIfInBounds_toArray, List.set_cons_zero, List.set_cons_succ, i64_w, i32_w]
        rfl
      refine pure_ (i := 22) (N := some 114) (v := undef) (a' := ?_) #[true, true, true, true, true, true, true, true, true, true, true, true, true, true, true, true, true, true, true, true, true, true, true, false, false, false, false, false, false, false, false, false, false, false, false, false] rfl rfl (any_of HT_.out (by kernel_rfl)) (fun _ _ _ h => h) (Or.inr ⟨by rfl, rfl⟩) ?_ ?_
      rotate_left
      · simp only [Act.put, List.setIfInBounds_toArray, List.set_cons_zero, List.set_cons_succ, i64_w, i32_w]
        rfl
      refine pure_ (i := 23) (N := some 115) (v := undef) (a' := ?_) #[true, true, true, true, true, true, true, true, true, true, true, true, true, true, true, true, true, true, true, true, true, true, true, true, false, false, false, false, false, false, false, false, false, false, false, false] rfl rfl (any_of HT_.out (by kernel_rfl)) (fun _ _ _ h => h) (Or.inr ⟨by rfl, rfl⟩) ?_ ?_
      rotate_left
      · simp only [Act.put, List.setIfInBounds_toArray, List.set_cons_zero, List.set_cons_succ, i64_w, i32_w]
        rfl
      refine pure_ (i := 24) (N := some 116) (v := undef) (a' := ?_) #[true, true, true, true, true, true, true, true, true, true, true, true, true, true, true, true, true, true, true, true, true, true, true, true, true, false, false, false, false, false, false, false, false, false, false, false] rfl rfl (any_of HT_.out (by kernel_rfl)) (fun _ _ _ h => h) (Or.inr ⟨by rfl, rfl⟩) ?_ ?_
      rotate_left
      · simp only [Act.put, List.setIfInBounds_toArray, List.set_cons_zero, List.set_cons_succ, i64_w, i32_w]
        rfl
      refine pure_ (i := 25) (N := some 117) (v := undef) (a' := ?_) #[true, true, true, true, true, true, true, true, true, true, true, true, true, true, true, true, true, true, true, true, true, true, true, true, true, true, false, false, false, false, false, false, false, false, false, false] rfl rfl (any_of HT_.out (by kernel_rfl)) (fun _ _ _ h => h) (Or.inr ⟨by rfl, rfl⟩) ?_ ?_
      rotate_left
      · simp only [Act.put, List.setIfInBounds_toArray, List.set_cons_zero, List.set_cons_succ, i64_w, i32_w]
        rfl
      refine pure_ (i := 26) (N := some 118) (v := undef) (a' := ?_) #[true, true, true, true, true, true, true, true, true, true, true, true, true, true, true, true, true, true, true, true, true, true, true, true, true, true, true, false, false, false, false, false, false, false, false, false] rfl rfl (any_of HT_.out (by kernel_rfl)) (fun _ _ _ h => h) (Or.inr ⟨by rfl, rfl⟩) ?_ ?_
      rotate_left
      · simp only [Act.put, List.setIfInBounds_toArray, List.set_cons_zero, List.set_cons_succ, i64_w, i32_w]
        rfl
      refine pure_ (i := 27) (N := some 119) (v := undef) (a' := ?_) #[true, true, true, true, true, true, true, true, true, true, true, true, true, true, true, true, true, true, true, true, true, true, true, true, true, true, true, true, false, false, false, false, false, false, false, false] rfl rfl (any_of HT_.out (by kernel_rfl)) (fun _ _ _ h => h) (Or.inr ⟨by rfl, rfl⟩) ?_ ?_
      rotate_left
      · simp only [Act.put, List.setIfInBounds_toArray, List.set_cons_zero, List.set_cons_succ, i64_w, i32_w]
        rfl
      refine pure_ (i := 28) (N := some 120) (v := undef) (a' := ?_) #[true, true, true, true, true, true, true, true, true, true, true, true, true, true, true, true, true, true, true, true, true, true, true, true, true, true, true, true, true, false, false, false, false, false, false, false] rfl rfl (any_of HT_.out (by kernel_rfl)) (fun _ _ _ h => h) (Or.inr ⟨by rfl, rfl⟩) ?_ ?_
      rotate_left
      · simp only [Act.put, List.setIfInBounds_toArray, List.set_cons_zero, List.set_cons_succ, i64_w, i32_w]
        rfl
      refine pure_ (i := 29) (N := some 121) (v := undef) (a' := ?_) #[true, true, true, true, true, true, true, true, true, true, true, true, true, true, true, true, true, true, true, true, true, true, true, true, true, true, true, true, true, true, false, false, false, false, false, false] rfl rfl (any_of HT_.out (by kernel_rfl)) (fun _ _ _ h => h) (Or.inr ⟨by rfl, rfl⟩) ?_ ?_
      rotate_left
      · simp only [Act.put, List.setIfInBounds_toArray, List.set_cons_zero, List.set_cons_succ, i64_w, i32_w]
        rfl
      refine pure_ (i := 30) (N := some 122) (v := undef) (a' := ?_) #[true, true, true, true, true, true, true, true, true, true, true, true, true, true, true, true, true, true, true, true, true, true, true, true, true, true, true, true, true, true, true, false, false, false, false, false] rfl rfl (any_of HT_.out (by kernel_rfl)) (fun _ _ _ h => h) (Or.inr ⟨by rfl, rfl⟩) ?_ ?_
      rotate_left
      · simp only [Act.put, List.setIfInBounds_toArray, List.set_cons_zero, List.set_cons_succ, i64_w, i32_w]
        rfl
      refine pure_ (i := 31) (N := some 123) (v := undef) (a' := ?_) #[true, true, true, true, true, true, true, true, true, true, true, true, true, true, true, true, true, true, true, true, true, true, true, true, true, true, true, true, true, true, true, true, false, false, false, false] rfl rfl (any_of HT_.out (by kernel_rfl)) (fun _ _ _ h => h) (Or.inr ⟨by rfl, rfl⟩) ?_ ?_
      rotate_left
      · simp only [Act.put, List.setIfInBounds_toArray, List.set_cons_zero, List.set_cons_succ, i64_w, i32_w]
        rfl
      refine pure_ (i := 32) (N := some 124) (v := undef) (a' := ?_) #[true, true, true, true, true, true, true, true, true, true, true, true, true, true, true, true, true, true, true, true, true, true, true, true, true, true, true, true, true, true, true, true, true, false, false, false] rfl rfl (any_of HT_.out (by kernel_rfl)) (fun _ _ _ h => h) (Or.inr ⟨by rfl, rfl⟩) ?_ ?_
      rotate_left
      · simp only [Act.put, List.setIfInBounds_toArray, List.set_cons_zero, List.set_cons_succ, i64_w, i32_w]
        rfl
      refine pure_ (i := 33) (N := some 125) (v := undef) (a' := ?_) #[true, true, true, true, true, true, true, true, true, true, true, true, true, true, true, true, true, true, true, true, true, true, true, true, true, true, true, true, true, true, true, true, true, true, false, false] rfl rfl (any_of HT_.out (by kernel_rfl)) (fun _ _ _ h => h) (Or.inr ⟨by rfl, rfl⟩) ?_ ?_
      rotate_left
      · simp only [Act.put, List.setIfInBounds_toArray, List.set_cons_zero, List.set_cons_succ, i64_w, i32_w]
        rfl
      refine pure_ (i := 34) (N := some 126) (v := undef) (a' := ?_) #[true, true, true, true, true, true, true, true, true, true, true, true, true, true, true, true, true, true, true, true, true, true, true, true, true, true, true, true, true, true, true, true, true, true, true, false] rfl rfl (any_of HT_.out (by kernel_rfl)) (fun _ _ _ h => h) (Or.inr ⟨by rfl, rfl⟩) ?_ ?_
      rotate_left
      · simp only [Act.put, List.setIfInBounds_toArray, List.set_cons_zero, List.set_cons_succ, i64_w, i32_w]
        rfl
      refine pure_ (i := 35) (N := some 127) (v := ?_) (a' := ?_) #[true, true, true, true, true, true, true, true, true, true, true, true, true, true, true, true, true, true, true, true, true, true, true, true, true, true, true, true, true, true, true, true, true, true, true, true] rfl rfl (any_of HT_.out (by kernel_rfl)) (fun _ _ _ h => h) (Or.inl ⟨by rfl, ?_⟩) ?_ ?_
      rotate_left
      · intro w'
        go_simp
        with_reducible rfl
      rotate_left
      · simp only [Act.put, List.setIfInBounds_toArray, List.set_cons_zero, List.set_cons_succ, i64_w, i32_w]
        rfl
      refine done_ (done_of HT_.out (by kernel_rfl)) ?_
      obtain ⟨cb, hcb⟩ : ∃ cb : Bool, (Go.bits .and .i64 (closes / 2 ^ i) 1 == 1) = cb := ⟨_, rfl⟩
      cases cb
      · have hw2 := HW2.out
        go_wp2_with fail
        go_roundg (30 - (i + 1))
        case measure => clear hw2; have := HI.out; omega
        case rel => exact ⟨i + 1, _, _, _, _, by first | rfl | rw [hw2] | (simp; done), ⟨by clear hw2; have := HI.out; omega⟩, PN_, HB, HX, HR⟩
      · go_wp2_with fail
        have hbs_ := below_size HB.out
        refine (scan_Scanner_Close.calls kk g _ _ _ _ _ w _ HX.out HB.out C1_.out).mono ?_
        rintro e w31 ⟨va_, rfl, ho, hi, hb, hk⟩
        have n58_ : Aside0 (Below w.heap.size w w31) := ⟨hb⟩
        have n59_ : Aside0 (IsS58 w w31 g (⟨#[]⟩ : ByteArray) 0) := ⟨hi⟩
        have n60_ : Aside0 (IsS27 w w31 gr l b) := ⟨rst_keepS HR.out HX.out hk⟩
        have n61_ : Aside0 (Kd.R k49 49 w31 w.heap.size (fun _ => True) va_ oc) := ⟨Kd.R_lower ho hbs_⟩
        clear HB HX HR
        have HB := n58_
        have HX := n59_
        have HR := n60_
        have RE := n61_
        clear n58_ n59_ n60_ n61_
        clear hi hb hk hbs_ ho
        obtain ⟨reA, reC, rfl⟩ := Kd.R_slice RE.out
        go_wp2_with fail
        have hbs_ := below_size HB.out
        refine (bourneref1_Scanner_Close.calls kk gr _ _ _ _ _ w _ HR.out HB.out C2_.out).mono ?_
        rintro e w32 ⟨va_, rfl, ho, hi, hb, hk⟩
        have n62_ : Aside0 (Below w.heap.size w w32) := ⟨hb⟩
        have n63_ : Aside0 (IsS58 w w32 g (⟨#[]⟩ : ByteArray) 0) := ⟨st_keepR HX.out HR.out hk⟩
        have n64_ : Aside0 (IsS27 w w32 gr (⟨#[]⟩ : ByteArray) 0) := ⟨hi⟩
        have n65_ : Aside0 (Kd.R k49 49 w32 w.heap.size (fun _ => True) (.slice reA oc.length reC) oc) := ⟨rw_keepR RE.out HR.out hk⟩
        have n66_ : Aside0 (Kd.R k49 49 w32 w.heap.size (fun _ => True) va_ oc) := ⟨Kd.R_lower ho hbs_⟩
        clear HB HX HR RE
        have HB := n62_
        have HX := n63_
        have HR := n64_
        have RE := n65_
        have RF := n66_
        clear n62_ n63_ n64_ n65_ n66_
        clear hi hb hk hbs_ ho
        obtain ⟨rfA, rfC, rfl⟩ := Kd.R_slice RF.out
        obtain ⟨-, hc0, hC0⟩ := Kd.R_reads' RE.out
        obtain ⟨-, hc1, hC1⟩ := Kd.R_reads' RF.out
        go_wp2_with fail
        refine (same_calls kk _ _ oc _ _ oc true _ hC0 hc0 hC1 hc1 C3_.out).mono ?_
        rintro e w33 ⟨rfl, hb⟩
        clear hc0 hC0 hc1 hC1
        clear RE RF
        have n67_ : Aside0 (Below w.heap.size w w33) := ⟨below_step HB.out hb⟩
        have n68_ : Aside0 (IsS58 w w33 g (⟨#[]⟩ : ByteArray) 0) := ⟨IsS58.below HX.out hb⟩
        have n69_ : Aside0 (IsS27 w w33 gr (⟨#[]⟩ : ByteArray) 0) := ⟨IsS27.below HR.out hb⟩
        clear HB HX HR
        have HB := n67_
        have HX := n68_
        have HR := n69_
        clear n67_ n68_ n69_
        clear hb
        go_wp2_with fail
        have hbs_ := below_size HB.out
        refine (scan_Scanner_Waits.calls g _ _ _ _ _ w _ HX.out HB.out rfl).mono ?_
        rintro e w34 ⟨rfl, hi, hb, hk⟩
        have n70_ : Aside0 (Below w.heap.size w w34) := ⟨hb⟩
        have n71_ : Aside0 (IsS58 w w34 g (⟨#[]⟩ : ByteArray) 0) := ⟨hi⟩
        have n72_ : Aside0 (IsS27 w w34 gr (⟨#[]⟩ : ByteArray) 0) := ⟨rst_keepS HR.out HX.out hk⟩
        clear HB HX HR
        have HB := n70_
        have HX := n71_
        have HR := n72_
        clear n70_ n71_ n72_
        clear hi hb hk hbs_
        go_wp2_with fail
        have hbs_ := below_size HB.out
        refine (scan_Scanner_Bad.calls g _ _ _ _ _ w _ HX.out HB.out rfl).mono ?_
        rintro e w35 ⟨rfl, hi, hb, hk⟩
        have n73_ : Aside0 (Below w.heap.size w w35) := ⟨hb⟩
        have n74_ : Aside0 (IsS58 w w35 g (⟨#[]⟩ : ByteArray) 0) := ⟨hi⟩
        have n75_ : Aside0 (IsS27 w w35 gr (⟨#[]⟩ : ByteArray) 0) := ⟨rst_keepS HR.out HX.out hk⟩
        clear HB HX HR
        have HB := n73_
        have HX := n74_
        have HR := n75_
        clear n73_ n74_ n75_
        clear hi hb hk hbs_
        have hw2 := HW2.out
        go_wp2_with fail
        go_roundg (30 - (i + 1))
        case measure => clear hw2; have := HI.out; omega
        case rel => exact ⟨i + 1, _, _, _, _, by first | rfl | rw [hw2] | (simp; done), ⟨by clear hw2; have := HI.out; omega⟩, PC_, HB, HX, HR⟩
    · have hx : (decide ((i : Int) < (parts.length : Int)) = false ∧ ¬ ((i : Int) < (parts.length : Int))) ∨ ((decide ((i : Int) < (parts.length : Int)) = true ∧ (i : Int) < (parts.length : Int)) ∧ decide ((i : Int) < (30 : Int)) = false ∧ ¬ ((i : Int) < (30 : Int))) := by
        by_cases z : i < parts.length
        · exact .inr ⟨⟨decide_eq_true (by omega), by omega⟩, decide_eq_false (by omega), by omega⟩
        · exact .inl ⟨decide_eq_false (by omega), by omega⟩
      rcases hx with ⟨q1, q3⟩ | ⟨⟨q1, q3⟩, q2, q4⟩
      all_goals
        go_wp2_with fail
        refine (AW.out _).mono ?_
        rintro e w40 ⟨rfl, hb⟩
        have HB2 := Aside0.mk (below_step HB.out hb)
        clear hb
        go_wp2_with fail
        go_ret
        exact ⟨by first | rfl | (simp; done), HB2.out⟩

end Go.Proofs.Ytmccgkbbgicglaa.ScansW
