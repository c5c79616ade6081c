/- What every scanner program answers that is one: the walk of awake with its callees' answers. No condition. -/
import Derived.Test.YtmccgkbbgicglaaScanAwakePureR
import Derived.Test.YtmccgkbbgicglaaScanLoadWR
import Derived.Test.YtmccgkbbgicglaaQScanRefx12
import Derived.Test.YtmccgkbbgicglaaQScanRefx13a
namespace Go.Proofs.Ytmccgkbbgicglaa.ScanAwakeR
open Go.RowKit Go.Proofs.Ytmccgkbbgicglaa.QScanRef Go.Proofs.Ytmccgkbbgicglaa.ScanPureR Go.Proofs.Ytmccgkbbgicglaa.ScanAwakePureR Go.Proofs.Ytmccgkbbgicglaa.ScanLoadWR Go.Proofs.YtmccgkbbgicglaaW.PrintWords Go.Proofs.YtmccgkbbgicglaaW.PrintLast Go.Proofs.YtmccgkbbgicglaaW.PrintMore
set_option linter.unusedVariables false
set_option linter.unusedSimpArgs false


def T21_14 : Bool × List (List Nat × List Nat) := (true, [([], []), ([], []), ([0, 1], [0, 1]), ([2], [2]), ([3], [3]), ([4, 3, 3], [3, 4]), ([5, 3], [3, 5]), ([3, 6], [3, 6]), ([7, 5], [7]), ([8], [8]), ([9, 8, 8], [8, 9]), ([10, 8], [8, 10]), ([8, 11], [8, 11]), ([12, 10], [12]), ([13], [13]), ([14, 13], [13, 14]), ([15, 13], [13, 15]), ([13, 16], [13, 16]), ([17, 13], [17]), ([18], [18]), ([18], [18]), ([20, 18], [18, 20]), ([19, 21, 18], [18, 19, 21]), ([18, 22], [18, 22]), ([23, 18], [23]), ([24], [24]), ([25, 24], [24, 25]), ([24, 26], [24, 26]), ([27, 24], [27]), ([28], [28]), ([28], [28]), ([28], [28]), ([30, 31, 28], [28, 30, 31]), ([29, 32, 28, 28], [28, 29, 32]), ([28, 33], [28, 33]), ([34, 33], [34]), ([35], [35]), ([35], [35]), ([37, 35], [35, 37]), ([36, 38, 35, 35], [35, 36, 38]), ([35, 39], [35, 39]), ([40, 39], [40]), ([41], [41]), ([42, 41, 41], [41, 42]), ([43, 41], [41, 43]), ([41, 44], [41, 44]), ([45, 43], [45]), ([46], [46]), ([47, 46, 46], [46, 47]), ([48, 46], [46, 48]), ([46, 49], [46, 49]), ([50, 48], [50]), ([51], [51]), ([52, 51], [51, 52]), ([51, 53], [51, 53]), ([54, 51], [54]), ([55], [55]), ([56, 55, 55], [55, 56]), ([55], [55]), ([58, 55], [55, 58]), ([57, 59, 55], [55, 57, 59]), ([55, 60], [55, 60]), ([61, 57], [61]), ([62], [62]), ([63, 62, 62], [62, 63]), ([64, 62], [62, 64]), ([62, 65], [62, 65]), ([66, 64, 0, 1, 2, 3, 4, 5, 6, 7, 8, 9, 10, 11, 12, 13, 14, 15, 16, 17, 18, 19, 20, 21, 22, 23, 24, 25, 26, 27, 28, 29, 30, 31, 32, 33, 34, 35, 36, 37, 38, 39, 40, 41, 42, 43, 44, 45, 46, 47, 48, 49, 50, 51, 52, 53, 54, 55, 56, 57, 58, 59, 60, 61, 62, 63, 64, 65, 66], [66])])
def B21_14 : List Nat := [0, 0, 3, 7, 15, 31, 63, 127, 255, 511, 1023, 2047, 4095, 8191, 16383, 32767, 65535, 131071, 262143, 524287, 524287, 1572863, 4194303, 8388607, 16777215, 33554431, 67108863, 134217727, 268435455, 536870911, 536870911, 536870911, 3758096383, 8589934591, 17179869183, 34359738367, 68719476735, 68719476735, 206158430207, 549755813887, 1099511627775, 2199023255551, 4398046511103, 8796093022207, 17592186044415, 35184372088831, 70368744177663, 140737488355327, 281474976710655, 562949953421311, 1125899906842623, 2251799813685247, 4503599627370495, 9007199254740991, 18014398509481983, 36028797018963967, 72057594037927935, 144115188075855871, 72057594037927935, 360287970189639679, 1152921504606846975, 2305843009213693951, 4611686018427387903, 9223372036854775807, 18446744073709551615, 36893488147419103231, 73786976294838206463, 147573952589676412927]
theorem tab21_14 : rtab .any (opsOf Try.f21 14) = T21_14 := by kernel_rfl
theorem bits21_14 : waitsOk T21_14.2 B21_14 = true := by kernel_rfl
set_option maxHeartbeats 20000000 in
set_option maxRecDepth 100000 in
theorem awake_calls (kk : Nat) (s b : ByteArray) (x8 : ByteArray) (p8 : Int) (w : World) (A0 : Aside0 (s.size = 7))
    (A1 : Aside0 (bournelaw11_framed.f kk 1 1 0 7 0 = some s)) (A2 : Aside0 (wire_Put.f kk 1 1 0 7 0 = some (b, 0))) (A3 : Aside0 (frame_Put.f kk b = some (s, 0)))
    (A4 : Aside0 (scan_Scanner_Write.f kk (⟨#[]⟩ : ByteArray) 0 ((⟨#[113, 113]⟩ : ByteArray) ++ s.extract 0 3) = some (([] : List S49), s.extract 0 3, 2)))
    (A5 : Aside0 (scan_Scanner_Write.f kk (s.extract 0 3) 2 (s.extract 3 s.size ++ (⟨#[122]⟩ : ByteArray)) = some ([(⟨3, 0, 0, 0, 2⟩ : S49), (⟨1, 1, 0, 7, 0⟩ : S49)], (⟨#[]⟩ : ByteArray), 1)))
    (A6 : Aside0 (scan_Scanner_Close.f kk (⟨#[]⟩ : ByteArray) 1 = some ([(⟨3, 0, 0, 0, 1⟩ : S49)], (⟨#[]⟩ : ByteArray), 0)))
    (A7 : Aside0 (frame_Get.f kk (⟨#[122]⟩ : ByteArray) 0 = some ((⟨#[]⟩ : ByteArray), 0, 800))) (A8 : Aside0 (frame_Get.f kk (s.extract 0 4) 0 = some (x8, p8, 801)))
    (A9 : Aside0 (bournelaw0_SameOps.f kk [(⟨3, 0, 0, 0, 2⟩ : S49), (⟨1, 1, 0, 7, 0⟩ : S49)] [(⟨3, 0, 0, 0, 2⟩ : S49), (⟨1, 1, 0, 7, 0⟩ : S49)] = some true)) (A10 : Aside0 (bournelaw0_SameOps.f kk [(⟨3, 0, 0, 0, 1⟩ : S49)] [(⟨3, 0, 0, 0, 1⟩ : S49)] = some true)) :
    Calls Try.prog 21 #[] w fun e w' => e = .returned (.bool true) ∧ Below w.heap.size w w' := by
  have HB := Aside0.mk (Below.refl w.heap.size w)
  go_enter Try.func21, Try.ntmps21
  go_wp2_with fail
  refine (scan_New.calls _ _ w _ HB.out rfl).mono ?_
  rintro e w1 ⟨g, rfl, hi, _, hb⟩
  have n1_ : Aside0 (Below w.heap.size w w1) := ⟨below_step HB.out hb⟩
  have n2_ : Aside0 (IsS58 w w1 g (⟨#[]⟩ : ByteArray) 0) := ⟨hi⟩
  clear HB
  have HB := n1_
  have HX := n2_
  clear n1_ n2_
  clear hi hb
  go_upto_region 5 with (fail)
  have hbd := below_alloc (Below.refl w1.heap.size w1) (.cells #[.int .i64 1, .int .i64 1, .int .i64 0, .int .i64 7, .int .i64 0] 49 (0, 0))
  have hnew := blk_new w1 (.cells #[.int .i64 1, .int .i64 1, .int .i64 0, .int .i64 7, .int .i64 0] 49 (0, 0))
  generalize hg2 : w1.heap.size = g2 at hnew ⊢
  generalize w1.alloc (.cells #[.int .i64 1, .int .i64 1, .int .i64 0, .int .i64 7, .int .i64 0] 49 (0, 0)) = w2 at hbd hnew ⊢
  have n3_ : Aside0 (Below w.heap.size w w2) := ⟨below_step HB.out hbd⟩
  have n4_ : Aside0 (IsS58 w w2 g (⟨#[]⟩ : ByteArray) 0) := ⟨IsS58.below HX.out hbd⟩
  have n5_ : Aside0 (w2.heap[g2]? = some (.cells #[.int .i64 1, .int .i64 1, .int .i64 0, .int .i64 7, .int .i64 0] 49 (0, 0))) := ⟨hnew⟩
  clear HB HX
  have HB := n3_
  have HX := n4_
  have HO := n5_
  clear n3_ n4_ n5_
  clear hbd hnew hg2
  have x6 : w2.cell? ⟨g2, 0, none⟩ = some (.int .i64 1) := blk_cell HO.out 0
  have x7 : w2.cell? ⟨g2, 1, none⟩ = some (.int .i64 1) := blk_cell HO.out 1
  have x8 : w2.cell? ⟨g2, 2, none⟩ = some (.int .i64 0) := blk_cell HO.out 2
  have x9 : w2.cell? ⟨g2, 3, none⟩ = some (.int .i64 7) := blk_cell HO.out 3
  have x10 : w2.cell? ⟨g2, 4, none⟩ = some (.int .i64 0) := blk_cell HO.out 4
  go_wp2_with fail
  refine (bournelaw11_framed.calls kk 1 1 0 7 0 s _ A1.out).mono ?_
  rintro e w3 ⟨rfl, hb⟩
  clear x6 x7 x8 x9 x10
  have n11_ : Aside0 (Below w.heap.size w w3) := ⟨below_step HB.out hb⟩
  have n12_ : Aside0 (IsS58 w w3 g (⟨#[]⟩ : ByteArray) 0) := ⟨IsS58.below HX.out hb⟩
  have n13_ : Aside0 (w3.heap[g2]? = some (.cells #[.int .i64 1, .int .i64 1, .int .i64 0, .int .i64 7, .int .i64 0] 49 (0, 0))) := ⟨blk_below HO.out hb⟩
  clear HB HX HO
  have HB := n11_
  have HX := n12_
  have HO := n13_
  clear n11_ n12_ n13_
  clear hb
  have x14 : w3.cell? ⟨g2, 0, none⟩ = some (.int .i64 1) := blk_cell HO.out 0
  have x15 : w3.cell? ⟨g2, 1, none⟩ = some (.int .i64 1) := blk_cell HO.out 1
  have x16 : w3.cell? ⟨g2, 2, none⟩ = some (.int .i64 0) := blk_cell HO.out 2
  have x17 : w3.cell? ⟨g2, 3, none⟩ = some (.int .i64 7) := blk_cell HO.out 3
  have x18 : w3.cell? ⟨g2, 4, none⟩ = some (.int .i64 0) := blk_cell HO.out 4
  go_wp2_with fail
  refine (wire_Put.calls kk 1 1 0 7 0 b 0 _ A2.out).mono ?_
  rintro e w4 ⟨rfl, hb⟩
  clear x14 x15 x16 x17 x18
  have n19_ : Aside0 (Below w.heap.size w w4) := ⟨below_step HB.out hb⟩
  have n20_ : Aside0 (IsS58 w w4 g (⟨#[]⟩ : ByteArray) 0) := ⟨IsS58.below HX.out hb⟩
  have n21_ : Aside0 (w4.heap[g2]? = some (.cells #[.int .i64 1, .int .i64 1, .int .i64 0, .int .i64 7, .int .i64 0] 49 (0, 0))) := ⟨blk_below HO.out hb⟩
  clear HB HX HO
  have HB := n19_
  have HX := n20_
  have HO := n21_
  clear n19_ n20_ n21_
  clear hb
  go_wp2_with fail
  refine (frame_Put.calls kk b s 0 _ A3.out).mono ?_
  rintro e w5 ⟨rfl, hb⟩
  have n22_ : Aside0 (Below w.heap.size w w5) := ⟨below_step HB.out hb⟩
  have n23_ : Aside0 (IsS58 w w5 g (⟨#[]⟩ : ByteArray) 0) := ⟨IsS58.below HX.out hb⟩
  have n24_ : Aside0 (w5.heap[g2]? = some (.cells #[.int .i64 1, .int .i64 1, .int .i64 0, .int .i64 7, .int .i64 0] 49 (0, 0))) := ⟨blk_below HO.out hb⟩
  clear HB HX HO
  have HB := n22_
  have HX := n23_
  have HO := n24_
  clear n22_ n23_ n24_
  clear hb
  have q3 : ((3 : Int) ≤ (s.size : Int)) = True := eq_true (by have := A0.out; omega)
  have q3b : decide ((3 : Int) ≤ (s.size : Int)) = true := decide_eq_true (by have := A0.out; omega)
  have q4 : ((4 : Int) ≤ (s.size : Int)) = True := eq_true (by have := A0.out; omega)
  have q4b : decide ((4 : Int) ≤ (s.size : Int)) = true := decide_eq_true (by have := A0.out; omega)
  have z1 : (s.extract 3 s.size).size + 1 ≤ 9223372036854775807 := by rw [ByteArray.size_extract]; have := A0.out; omega
  have z2 := eq_false (Nat.not_lt.2 z1)
  have z3 := z1
  simp only [ByteArray.size_extract, Nat.min_self] at z3
  have z4 := eq_false (Nat.not_lt.2 z3)
  go_wp2_with fail
  refine (scan_Scanner_Write.calls kk g _ 0 ((⟨#[113, 113]⟩ : ByteArray) ++ s.extract 0 3) _ _ _ w _ HX.out HB.out A4.out).mono ?_
  rintro e w6 ⟨va_, rfl, ho, hi, hb, hk⟩
  have n25_ : Aside0 (Below w.heap.size w w6) := ⟨hb⟩
  have n26_ : Aside0 (IsS58 w w6 g (s.extract 0 3) 2) := ⟨hi⟩
  have n27_ : Aside0 (w6.heap[g2]? = some (.cells #[.int .i64 1, .int .i64 1, .int .i64 0, .int .i64 7, .int .i64 0] 49 (0, 0))) := ⟨blk_keep HO.out (by decide) HX.out hk⟩
  have n28_ : Aside0 (Kd.R k49 49 w6 w.heap.size (fun _ => True) va_ ([] : List S49)) := ⟨Kd.R_lower ho (below_size HB.out)⟩
  clear HB HX HO
  have HB := n25_
  have HX := n26_
  have HO := n27_
  have RA := n28_
  clear n25_ n26_ n27_ n28_
  clear hi hb hk ho
  obtain ⟨raA, raC, rfl⟩ := Kd.R_slice RA.out
  go_wp2_with fail
  refine (scan_Scanner_Waits.calls g _ _ _ _ _ w _ HX.out HB.out rfl).mono ?_
  rintro e w7 ⟨rfl, hi, hb, hk⟩
  have n29_ : Aside0 (Below w.heap.size w w7) := ⟨hb⟩
  have n30_ : Aside0 (IsS58 w w7 g (s.extract 0 3) 2) := ⟨hi⟩
  have n31_ : Aside0 (w7.heap[g2]? = some (.cells #[.int .i64 1, .int .i64 1, .int .i64 0, .int .i64 7, .int .i64 0] 49 (0, 0))) := ⟨blk_keep HO.out (by decide) HX.out hk⟩
  have n32_ : Aside0 (Kd.R k49 49 w7 w.heap.size (fun _ => True) (.slice raA (([] : List S49) : List S49).length raC) ([] : List S49)) := ⟨rw_keep RA.out HX.out hk⟩
  clear HB HX HO RA
  have HB := n29_
  have HX := n30_
  have HO := n31_
  have RA := n32_
  clear n29_ n30_ n31_ n32_
  clear hi hb hk
  go_wp2_with fail
  refine (scan_Scanner_Bad.calls g _ _ _ _ _ w _ HX.out HB.out rfl).mono ?_
  rintro e w8 ⟨rfl, hi, hb, hk⟩
  have n33_ : Aside0 (Below w.heap.size w w8) := ⟨hb⟩
  have n34_ : Aside0 (IsS58 w w8 g (s.extract 0 3) 2) := ⟨hi⟩
  have n35_ : Aside0 (w8.heap[g2]? = some (.cells #[.int .i64 1, .int .i64 1, .int .i64 0, .int .i64 7, .int .i64 0] 49 (0, 0))) := ⟨blk_keep HO.out (by decide) HX.out hk⟩
  have n36_ : Aside0 (Kd.R k49 49 w8 w.heap.size (fun _ => True) (.slice raA (([] : List S49) : List S49).length raC) ([] : List S49)) := ⟨rw_keep RA.out HX.out hk⟩
  clear HB HX HO RA
  have HB := n33_
  have HX := n34_
  have HO := n35_
  have RA := n36_
  clear n33_ n34_ n35_ n36_
  clear hi hb hk
  go_wp2_with fail
  refine (scan_Scanner_Write.calls kk g _ 2 (s.extract 3 s.size ++ (⟨#[122]⟩ : ByteArray)) _ _ _ w _ HX.out HB.out A5.out).mono ?_
  rintro e w9 ⟨va_, rfl, ho, hi, hb, hk⟩
  have n37_ : Aside0 (Below w.heap.size w w9) := ⟨hb⟩
  have n38_ : Aside0 (IsS58 w w9 g (⟨#[]⟩ : ByteArray) 1) := ⟨hi⟩
  have n39_ : Aside0 (w9.heap[g2]? = some (.cells #[.int .i64 1, .int .i64 1, .int .i64 0, .int .i64 7, .int .i64 0] 49 (0, 0))) := ⟨blk_keep HO.out (by decide) HX.out hk⟩
  have n40_ : Aside0 (Kd.R k49 49 w9 w.heap.size (fun _ => True) (.slice raA (([] : List S49) : List S49).length raC) ([] : List S49)) := ⟨rw_keep RA.out HX.out hk⟩
  have n41_ : Aside0 (Kd.R k49 49 w9 w.heap.size (fun _ => True) va_ [(⟨3, 0, 0, 0, 2⟩ : S49), (⟨1, 1, 0, 7, 0⟩ : S49)]) := ⟨Kd.R_lower ho (below_size HB.out)⟩
  clear HB HX HO RA
  have HB := n37_
  have HX := n38_
  have HO := n39_
  have RA := n40_
  have RC := n41_
  clear n37_ n38_ n39_ n40_ n41_
  clear hi hb hk ho
  obtain ⟨rcA, rcC, rfl⟩ := Kd.R_slice RC.out
  go_wp2_with fail
  refine (scan_Scanner_Close.calls kk g _ 1 _ _ _ w _ HX.out HB.out A6.out).mono ?_
  rintro e w10 ⟨va_, rfl, ho, hi, hb, hk⟩
  have n42_ : Aside0 (Below w.heap.size w w10) := ⟨hb⟩
  have n43_ : Aside0 (IsS58 w w10 g (⟨#[]⟩ : ByteArray) 0) := ⟨hi⟩
  have n44_ : Aside0 (w10.heap[g2]? = some (.cells #[.int .i64 1, .int .i64 1, .int .i64 0, .int .i64 7, .int .i64 0] 49 (0, 0))) := ⟨blk_keep HO.out (by decide) HX.out hk⟩
  have n45_ : Aside0 (Kd.R k49 49 w10 w.heap.size (fun _ => True) (.slice raA (([] : List S49) : List S49).length raC) ([] : List S49)) := ⟨rw_keep RA.out HX.out hk⟩
  have n46_ : Aside0 (Kd.R k49 49 w10 w.heap.size (fun _ => True) (.slice rcA ([(⟨3, 0, 0, 0, 2⟩ : S49), (⟨1, 1, 0, 7, 0⟩ : S49)] : List S49).length rcC) [(⟨3, 0, 0, 0, 2⟩ : S49), (⟨1, 1, 0, 7, 0⟩ : S49)]) := ⟨rw_keep RC.out HX.out hk⟩
  have n47_ : Aside0 (Kd.R k49 49 w10 w.heap.size (fun _ => True) va_ [(⟨3, 0, 0, 0, 1⟩ : S49)]) := ⟨Kd.R_lower ho (below_size HB.out)⟩
  clear HB HX HO RA RC
  have HB := n42_
  have HX := n43_
  have HO := n44_
  have RA := n45_
  have RC := n46_
  have RD := n47_
  clear n42_ n43_ n44_ n45_ n46_ n47_
  clear hi hb hk ho
  obtain ⟨rdA, rdC, rfl⟩ := Kd.R_slice RD.out
  go_wp2_with fail
  refine (load_no kk (⟨#[122]⟩ : ByteArray) 0 _ _ _ _ A7.out (.inr (.inr ⟨by decide +kernel, by decide⟩))).mono ?_
  rintro e w11 ⟨rfl, hb⟩
  have n48_ : Aside0 (Below w.heap.size w w11) := ⟨below_step HB.out hb⟩
  have n49_ : Aside0 (IsS58 w w11 g (⟨#[]⟩ : ByteArray) 0) := ⟨IsS58.below HX.out hb⟩
  have n50_ : Aside0 (w11.heap[g2]? = some (.cells #[.int .i64 1, .int .i64 1, .int .i64 0, .int .i64 7, .int .i64 0] 49 (0, 0))) := ⟨blk_below HO.out hb⟩
  have n51_ : Aside0 (Kd.R k49 49 w11 w.heap.size (fun _ => True) (.slice raA (([] : List S49) : List S49).length raC) ([] : List S49)) := ⟨Kd.R_below RA.out hb⟩
  have n52_ : Aside0 (Kd.R k49 49 w11 w.heap.size (fun _ => True) (.slice rcA ([(⟨3, 0, 0, 0, 2⟩ : S49), (⟨1, 1, 0, 7, 0⟩ : S49)] : List S49).length rcC) [(⟨3, 0, 0, 0, 2⟩ : S49), (⟨1, 1, 0, 7, 0⟩ : S49)]) := ⟨Kd.R_below RC.out hb⟩
  have n53_ : Aside0 (Kd.R k49 49 w11 w.heap.size (fun _ => True) (.slice rdA ([(⟨3, 0, 0, 0, 1⟩ : S49)] : List S49).length rdC) [(⟨3, 0, 0, 0, 1⟩ : S49)]) := ⟨Kd.R_below RD.out hb⟩
  clear HB HX HO RA RC RD
  have HB := n48_
  have HX := n49_
  have HO := n50_
  have RA := n51_
  have RC := n52_
  have RD := n53_
  clear n48_ n49_ n50_ n51_ n52_ n53_
  clear hb
  go_wp2_with fail
  refine (load_ok kk (s.extract 0 4) 3 _ _ _ w _ HB.out A8.out (by decide) (by decide) (.inr rfl)).mono ?_
  rintro e w12 ⟨gy, rfl, hi, hge, hb⟩
  have hny : gy ≠ g := fun e => by have := IsS58.lt HX.out; omega
  have n54_ : Aside0 (Below w.heap.size w w12) := ⟨below_step HB.out hb⟩
  have n55_ : Aside0 (IsS58 w w12 g (⟨#[]⟩ : ByteArray) 0) := ⟨IsS58.below HX.out hb⟩
  have n56_ : Aside0 (w12.heap[g2]? = some (.cells #[.int .i64 1, .int .i64 1, .int .i64 0, .int .i64 7, .int .i64 0] 49 (0, 0))) := ⟨blk_below HO.out hb⟩
  have n57_ : Aside0 (Kd.R k49 49 w12 w.heap.size (fun _ => True) (.slice raA (([] : List S49) : List S49).length raC) ([] : List S49)) := ⟨Kd.R_below RA.out hb⟩
  have n58_ : Aside0 (Kd.R k49 49 w12 w.heap.size (fun _ => True) (.slice rcA ([(⟨3, 0, 0, 0, 2⟩ : S49), (⟨1, 1, 0, 7, 0⟩ : S49)] : List S49).length rcC) [(⟨3, 0, 0, 0, 2⟩ : S49), (⟨1, 1, 0, 7, 0⟩ : S49)]) := ⟨Kd.R_below RC.out hb⟩
  have n59_ : Aside0 (Kd.R k49 49 w12 w.heap.size (fun _ => True) (.slice rdA ([(⟨3, 0, 0, 0, 1⟩ : S49)] : List S49).length rdC) [(⟨3, 0, 0, 0, 1⟩ : S49)]) := ⟨Kd.R_below RD.out hb⟩
  have n60_ : Aside0 (IsS58 w w12 gy (s.extract 0 4) 3) := ⟨hi⟩
  clear HB HX HO RA RC RD
  have HB := n54_
  have HX := n55_
  have HO := n56_
  have RA := n57_
  have RC := n58_
  have RD := n59_
  have HY := n60_
  clear n54_ n55_ n56_ n57_ n58_ n59_ n60_
  clear hi hb hge
  go_upto_region 14 with (fail)
  refine start_ (n := 68) (S := fun w' => w'.cell? ⟨g2, 0, none⟩ = some (.int .i64 1) ∧ w'.cell? ⟨g2, 1, none⟩ = some (.int .i64 1) ∧ w'.cell? ⟨g2, 2, none⟩ = some (.int .i64 0) ∧ w'.cell? ⟨g2, 3, none⟩ = some (.int .i64 7) ∧ w'.cell? ⟨g2, 4, none⟩ = some (.int .i64 0)) (ds := []) #[false, false, false, false, false, false, false, false, false, false, false, false, false, false, false, false, false, false, false, false, false, false, false, false, false, false, false, false, false, false, false, false, false, false, false, false, false, false, false, false, false, false, false, false, false, false, false, false, false, false, false, false, false, false, false, false, false, false, false, false, false, false, false, false, false, false, false, false] (by kernel_rfl) rfl rfl (⟨blk_cell (show w12.drew.heap[g2]? = _ from HO.out) 0, blk_cell (show w12.drew.heap[g2]? = _ from HO.out) 1, blk_cell (show w12.drew.heap[g2]? = _ from HO.out) 2, blk_cell (show w12.drew.heap[g2]? = _ from HO.out) 3, blk_cell (show w12.drew.heap[g2]? = _ from HO.out) 4⟩) (fun hHeld => ?_)
  refine with_tabW tab21_14 bits21_14 (fun HT_ HW_ => ?_)
  have hbd := below_drew1 (Below.refl w12.heap.size w12)
  generalize w12.drew = wd61 at hbd hHeld ⊢
  have n62_ : Aside0 (Below w.heap.size w wd61) := ⟨below_step HB.out hbd⟩
  have n63_ : Aside0 (IsS58 w wd61 g (⟨#[]⟩ : ByteArray) 0) := ⟨IsS58.below HX.out hbd⟩
  have n64_ : Aside0 (wd61.heap[g2]? = some (.cells #[.int .i64 1, .int .i64 1, .int .i64 0, .int .i64 7, .int .i64 0] 49 (0, 0))) := ⟨blk_below HO.out hbd⟩
  have n65_ : Aside0 (Kd.R k49 49 wd61 w.heap.size (fun _ => True) (.slice raA (([] : List S49) : List S49).length raC) ([] : List S49)) := ⟨Kd.R_below RA.out hbd⟩
  have n66_ : Aside0 (Kd.R k49 49 wd61 w.heap.size (fun _ => True) (.slice rcA ([(⟨3, 0, 0, 0, 2⟩ : S49), (⟨1, 1, 0, 7, 0⟩ : S49)] : List S49).length rcC) [(⟨3, 0, 0, 0, 2⟩ : S49), (⟨1, 1, 0, 7, 0⟩ : S49)]) := ⟨Kd.R_below RC.out hbd⟩
  have n67_ : Aside0 (Kd.R k49 49 wd61 w.heap.size (fun _ => True) (.slice rdA ([(⟨3, 0, 0, 0, 1⟩ : S49)] : List S49).length rdC) [(⟨3, 0, 0, 0, 1⟩ : S49)]) := ⟨Kd.R_below RD.out hbd⟩
  have n68_ : Aside0 (IsS58 w wd61 gy (s.extract 0 4) 3) := ⟨IsS58.below HY.out hbd⟩
  clear HB HX HO RA RC RD HY
  have HB := n62_
  have HX := n63_
  have HO := n64_
  have RA := n65_
  have RC := n66_
  have RD := n67_
  have HY := n68_
  clear n62_ n63_ n64_ n65_ n66_ n67_ n68_
  clear hbd
  refine pure_ (i := 0) (N := some 59) (v := ?_) (a' := ?_) #[true, false, false, false, false, false, false, false, false, false, false, false, false, false, false, false, false, false, false, false, false, false, false, false, false, false, false, false, false, false, false, false, false, false, false, false, false, false, false, false, false, false, false, false, false, false, false, false, false, false, false, false, false, false, false, false, false, false, false, false, false, false, false, false, false, false, false, false] rfl rfl (any_of HT_.out (by kernel_rfl)) (fun _ _ _ h => h) (Or.inl ⟨by rfl, ?_⟩) ?_ ?_
  rotate_left
  · intro w'
    go_simp
    with_reducible rfl
  rotate_left
  · simp only [Act.put, List.setIfInBounds_toArray, List.set_cons_zero, List.set_cons_succ, i64_w, i32_w]
    rfl
  refine pure_ (i := 1) (N := some 60) (v := ?_) (a' := ?_) #[true, true, false, false, false, false, false, false, false, false, false, false, false, false, false, false, false, false, false, false, false, false, false, false, false, false, false, false, false, false, false, false, false, false, false, false, false, false, false, false, false, false, false, false, false, false, false, false, false, false, false, false, false, false, false, false, false, false, false, false, false, false, false, false, false, false, false, false] rfl rfl (any_of HT_.out (by kernel_rfl)) (fun _ _ _ h => h) (Or.inl ⟨by rfl, ?_⟩) ?_ ?_
  rotate_left
  · intro w'
    go_simp
    with_reducible rfl
  rotate_left
  · simp only [Act.put, List.setIfInBounds_toArray, List.set_cons_zero, List.set_cons_succ, i64_w, i32_w]
    rfl
  refine pure_ (i := 2) (N := some 61) (v := ?_) (a' := ?_) #[true, true, true, false, false, false, false, false, false, false, false, false, false, false, false, false, false, false, false, false, false, false, false, false, false, false, false, false, false, false, false, false, false, false, false, false, false, false, false, false, false, false, false, false, false, false, false, false, false, false, false, false, false, false, false, false, false, false, false, false, false, false, false, false, false, false, false, false] rfl rfl (any_of HT_.out (by kernel_rfl)) (fun _ _ _ h => h) (Or.inl ⟨by rfl, ?_⟩) ?_ ?_
  rotate_left
  · intro w'
    go_simp
    with_reducible rfl
  rotate_left
  · simp only [Act.put, List.setIfInBounds_toArray, List.set_cons_zero, List.set_cons_succ, i64_w, i32_w]
    rfl
  refine pure_ (i := 3) (N := some 62) (v := ?_) (a' := ?_) #[true, true, true, true, false, false, false, false, false, false, false, false, false, false, false, false, false, false, false, false, false, false, false, false, false, false, false, false, false, false, false, false, false, false, false, false, false, false, false, false, false, false, false, false, false, false, false, false, false, false, false, false, false, false, false, false, false, false, false, false, false, false, false, false, false, false, false, false] rfl rfl (any_of HT_.out (by kernel_rfl)) (fun _ _ _ h => h) (Or.inl ⟨by rfl, ?_⟩) ?_ ?_
  rotate_left
  · intro w'
    go_simp
    with_reducible rfl
  rotate_left
  · simp only [Act.put, List.setIfInBounds_toArray, List.set_cons_zero, List.set_cons_succ, i64_w, i32_w]
    rfl
  refine pure_ (i := 4) (N := some 63) (v := ?_) (a' := ?_) #[true, true, true, true, true, false, false, false, false, false, false, false, false, false, false, false, false, false, false, false, false, false, false, false, false, false, false, false, false, false, false, false, false, false, false, false, false, false, false, false, false, false, false, false, false, false, false, false, false, false, false, false, false, false, false, false, false, false, false, false, false, false, false, false, false, false, false, false] rfl rfl (any_of HT_.out (by kernel_rfl)) (fun _ _ _ h => h) (Or.inl ⟨by rfl, ?_⟩) ?_ ?_
  rotate_left
  · intro w'
    go_simp
    with_reducible rfl
  rotate_left
  · simp only [Act.put, List.setIfInBounds_toArray, List.set_cons_zero, List.set_cons_succ, i64_w, i32_w]
    rfl
  refine one_ (i := 5) (N := some 64) #[true, true, true, true, true, true, false, false, false, false, false, false, false, false, false, false, false, false, false, false, false, false, false, false, false, false, false, false, false, false, false, false, false, false, false, false, false, false, false, false, false, false, false, false, false, false, false, false, false, false, false, false, false, false, false, false, false, false, false, false, false, false, false, false, false, false, false, false] rfl rfl (one_of HT_.out (by kernel_rfl)) (by decide) (fun K hK => ?_)
  refine goes_ Try.func12 (by kernel_rfl) rfl #[.int .i64 0] (by rfl) rfl rfl (by (try simp only [List.map_toArray, List.map_cons, List.map_nil]); first | done | rfl) ?_
  with_reducible refine (num_calls 0 _).mono ?_
  rintro e w5_ ⟨rfl, rfl⟩
  refine ⟨_, rfl, ?_⟩
  refine hK.out _ _ (⟨blk_cell (show wd61.heap[g2]? = _ from HO.out) 0, blk_cell (show wd61.heap[g2]? = _ from HO.out) 1, blk_cell (show wd61.heap[g2]? = _ from HO.out) 2, blk_cell (show wd61.heap[g2]? = _ from HO.out) 3, blk_cell (show wd61.heap[g2]? = _ from HO.out) 4⟩) (fun hHeld => ?_)
  clear hK K
  refine norm_ (a' := ?_) ?_ ?_
  rotate_left
  · show Act.put _ (some 64) _ = _
    simp only [Act.put, List.setIfInBounds_toArray, List.set_cons_zero, List.set_cons_succ, i64_w, i32_w]
    rfl
  refine pure_ (i := 6) (N := some 65) (v := ?_) (a' := ?_) #[true, true, true, true, true, true, true, false, false, false, false, false, false, false, false, false, false, false, false, false, false, false, false, false, false, false, false, false, false, false, false, false, false, false, false, false, false, false, false, false, false, false, false, false, false, false, false, false, false, false, false, false, false, false, false, false, false, false, false, false, false, false, false, false, false, false, false, false] rfl rfl (any_of HT_.out (by kernel_rfl)) (fun _ _ _ h => h) (Or.inl ⟨by rfl, ?_⟩) ?_ ?_
  rotate_left
  · intro w'
    go_simp
    with_reducible rfl
  rotate_left
  · simp only [Act.put, List.setIfInBounds_toArray, List.set_cons_zero, List.set_cons_succ, i64_w, i32_w]
    rfl
  refine pure_ (i := 7) (N := some 66) (v := ?_) (a' := ?_) #[true, true, true, true, true, true, true, true, false, false, false, false, false, false, false, false, false, false, false, false, false, false, false, false, false, false, false, false, false, false, false, false, false, false, false, false, false, false, false, false, false, false, false, false, false, false, false, false, false, false, false, false, false, false, false, false, false, false, false, false, false, false, false, false, false, false, false, false] rfl rfl (any_of HT_.out (by kernel_rfl)) (fun _ _ _ h => h) (Or.inl ⟨by rfl, ?_⟩) ?_ ?_
  rotate_left
  · intro w'
    go_simp
    with_reducible rfl
  rotate_left
  · simp only [Act.put, List.setIfInBounds_toArray, List.set_cons_zero, List.set_cons_succ, i64_w, i32_w]
    rfl
  refine pure_ (i := 8) (N := some 67) (v := ?_) (a' := ?_) #[true, true, true, true, true, true, true, true, true, false, false, false, false, false, false, false, false, false, false, false, false, false, false, false, false, false, false, false, false, false, false, false, false, false, false, false, false, false, false, false, false, false, false, false, false, false, false, false, false, false, false, false, false, false, false, false, false, false, false, false, false, false, false, false, false, false, false, false] rfl rfl (any_of HT_.out (by kernel_rfl)) (fun _ _ _ h => h) (Or.inl ⟨by rfl, ?_⟩) ?_ ?_
  rotate_left
  · intro w'
    go_simp
    with_reducible rfl
  rotate_left
  · simp only [Act.put, List.setIfInBounds_toArray, List.set_cons_zero, List.set_cons_succ, i64_w, i32_w]
    rfl
  refine pure_ (i := 9) (N := some 68) (v := ?_) (a' := ?_) #[true, true, true, true, true, true, true, true, true, true, false, false, false, false, false, false, false, false, false, false, false, false, false, false, false, false, false, false, false, false, false, false, false, false, false, false, false, false, false, false, false, false, false, false, false, false, false, false, false, false, false, false, false, false, false, false, false, false, false, false, false, false, false, false, false, false, false, false] rfl rfl (any_of HT_.out (by kernel_rfl)) (fun _ _ _ h => h) (Or.inl ⟨by rfl, ?_⟩) ?_ ?_
  rotate_left
  · intro w'
    go_simp
    with_reducible rfl
  rotate_left
  · simp only [Act.put, List.setIfInBounds_toArray, List.set_cons_zero, List.set_cons_succ, i64_w, i32_w]
    rfl
  refine one_ (i := 10) (N := some 69) #[true, true, true, true, true, true, true, true, true, true, true, false, false, false, false, false, false, false, false, false, false, false, false, false, false, false, false, false, false, false, false, false, false, false, false, false, false, false, false, false, false, false, false, false, false, false, false, false, false, false, false, false, false, false, false, false, false, false, false, false, false, false, false, false, false, false, false, false] rfl rfl (one_of HT_.out (by kernel_rfl)) (by decide) (fun K hK => ?_)
  refine goes_ Try.func12 (by kernel_rfl) rfl #[.int .i64 0] (by rfl) rfl rfl (by (try simp only [List.map_toArray, List.map_cons, List.map_nil]); first | done | rfl) ?_
  with_reducible refine (num_calls 0 _).mono ?_
  rintro e w5_ ⟨rfl, rfl⟩
  refine ⟨_, rfl, ?_⟩
  refine hK.out _ _ (⟨blk_cell (show wd61.heap[g2]? = _ from HO.out) 0, blk_cell (show wd61.heap[g2]? = _ from HO.out) 1, blk_cell (show wd61.heap[g2]? = _ from HO.out) 2, blk_cell (show wd61.heap[g2]? = _ from HO.out) 3, blk_cell (show wd61.heap[g2]? = _ from HO.out) 4⟩) (fun hHeld => ?_)
  clear hK K
  refine norm_ (a' := ?_) ?_ ?_
  rotate_left
  · show Act.put _ (some 69) _ = _
    simp only [Act.put, List.setIfInBounds_toArray, List.set_cons_zero, List.set_cons_succ, i64_w, i32_w]
    rfl
  refine pure_ (i := 11) (N := some 70) (v := ?_) (a' := ?_) #[true, true, true, true, true, true, true, true, true, true, true, true, false, false, false, false, false, false, false, false, false, false, false, false, false, false, false, false, false, false, false, false, false, false, false, false, false, false, false, false, false, false, false, false, false, false, false, false, false, false, false, false, false, false, false, false, false, false, false, false, false, false, false, false, false, false, false, false] rfl rfl (any_of HT_.out (by kernel_rfl)) (fun _ _ _ h => h) (Or.inl ⟨by rfl, ?_⟩) ?_ ?_
  rotate_left
  · intro w'
    go_simp
    with_reducible rfl
  rotate_left
  · simp only [Act.put, List.setIfInBounds_toArray, List.set_cons_zero, List.set_cons_succ, i64_w, i32_w]
    rfl
  refine pure_ (i := 12) (N := some 71) (v := ?_) (a' := ?_) #[true, true, true, true, true, true, true, true, true, true, true, true, true, false, false, false, false, false, false, false, false, false, false, false, false, false, false, false, false, false, false, false, false, false, false, false, false, false, false, false, false, false, false, false, false, false, false, false, false, false, false, false, false, false, false, false, false, false, false, false, false, false, false, false, false, false, false, false] rfl rfl (any_of HT_.out (by kernel_rfl)) (fun _ _ _ h => h) (Or.inl ⟨by rfl, ?_⟩) ?_ ?_
  rotate_left
  · intro w'
    go_simp
    with_reducible rfl
  rotate_left
  · simp only [Act.put, List.setIfInBounds_toArray, List.set_cons_zero, List.set_cons_succ, i64_w, i32_w]
    rfl
  refine pure_ (i := 13) (N := some 72) (v := ?_) (a' := ?_) #[true, true, true, true, true, true, true, true, true, true, true, true, true, true, false, false, false, false, false, false, false, false, false, false, false, false, false, false, false, false, false, false, false, false, false, false, false, false, false, false, false, false, false, false, false, false, false, false, false, false, false, false, false, false, false, false, false, false, false, false, false, false, false, false, false, false, false, false] rfl rfl (any_of HT_.out (by kernel_rfl)) (fun _ _ _ h => h) (Or.inl ⟨by rfl, ?_⟩) ?_ ?_
  rotate_left
  · intro w'
    go_simp
    with_reducible rfl
  rotate_left
  · simp only [Act.put, List.setIfInBounds_toArray, List.set_cons_zero, List.set_cons_succ, i64_w, i32_w]
    rfl
  refine pure_ (i := 14) (N := some 73) (v := ?_) (a' := ?_) #[true, true, true, true, true, true, true, true, true, true, true, true, true, true, true, false, false, false, false, false, false, false, false, false, false, false, false, false, false, false, false, false, false, false, false, false, false, false, false, false, false, false, false, false, false, false, false, false, false, false, false, false, false, false, false, false, false, false, false, false, false, false, false, false, false, false, false, false] rfl rfl (any_of HT_.out (by kernel_rfl)) (fun _ _ _ h => h) (Or.inl ⟨by rfl, ?_⟩) ?_ ?_
  rotate_left
  · intro w'
    go_simp
    with_reducible rfl
  rotate_left
  · simp only [Act.put, List.setIfInBounds_toArray, List.set_cons_zero, List.set_cons_succ, i64_w, i32_w]
    rfl
  refine pure_ (i := 15) (N := some 74) (v := ?_) (a' := ?_) #[true, true, true, true, true, true, true, true, true, true, true, true, true, true, true, true, false, false, false, false, false, false, false, false, false, false, false, false, false, false, false, false, false, false, false, false, false, false, false, false, false, false, false, false, false, false, false, false, false, false, false, false, false, false, false, false, false, false, false, false, false, false, false, false, false, false, false, false] rfl rfl (any_of HT_.out (by kernel_rfl)) (fun _ _ _ h => h) (Or.inl ⟨by rfl, ?_⟩) ?_ ?_
  rotate_left
  · intro w'
    go_simp
    with_reducible rfl
  rotate_left
  · simp only [Act.put, List.setIfInBounds_toArray, List.set_cons_zero, List.set_cons_succ, i64_w, i32_w]
    rfl
  refine pure_ (i := 16) (N := some 75) (v := ?_) (a' := ?_) #[true, true, true, true, true, true, true, true, true, true, true, true, true, true, true, true, true, false, false, false, false, false, false, false, false, false, false, false, false, false, false, false, false, false, false, false, false, false, false, false, false, false, false, false, false, false, false, false, false, false, false, false, false, false, false, false, false, false, false, false, false, false, false, false, false, false, false, false] rfl rfl (any_of HT_.out (by kernel_rfl)) (fun _ _ _ h => h) (Or.inl ⟨by rfl, ?_⟩) ?_ ?_
  rotate_left
  · intro w'
    go_simp
    with_reducible rfl
  rotate_left
  · simp only [Act.put, List.setIfInBounds_toArray, List.set_cons_zero, List.set_cons_succ, i64_w, i32_w]
    rfl
  refine pure_ (i := 17) (N := some 76) (v := ?_) (a' := ?_) #[true, true, true, true, true, true, true, true, true, true, true, true, true, true, true, true, true, true, false, false, false, false, false, false, false, false, false, false, false, false, false, false, false, false, false, false, false, false, false, false, false, false, false, false, false, false, false, false, false, false, false, false, false, false, false, false, false, false, false, false, false, false, false, false, false, false, false, false] rfl rfl (any_of HT_.out (by kernel_rfl)) (fun _ _ _ h => h) (Or.inl ⟨by rfl, ?_⟩) ?_ ?_
  rotate_left
  · intro w'
    go_simp
    with_reducible rfl
  rotate_left
  · simp only [Act.put, List.setIfInBounds_toArray, List.set_cons_zero, List.set_cons_succ, i64_w, i32_w]
    rfl
  refine pure_ (i := 18) (N := some 77) (v := ?_) (a' := ?_) #[true, true, true, true, true, true, true, true, true, true, true, true, true, true, true, true, true, true, true, false, false, false, false, false, false, false, false, false, false, false, false, false, false, false, false, false, false, false, false, false, false, false, false, false, false, false, false, false, false, false, false, false, false, false, false, false, false, false, false, false, false, false, false, false, false, false, false, false] rfl rfl (any_of HT_.out (by kernel_rfl)) (fun _ _ _ h => h) (Or.inl ⟨by rfl, ?_⟩) ?_ ?_
  rotate_left
  · intro w'
    go_simp
    with_reducible rfl
  rotate_left
  · simp only [Act.put, List.setIfInBounds_toArray, List.set_cons_zero, List.set_cons_succ, i64_w, i32_w]
    rfl
  refine pure_ (i := 19) (N := some 78) (v := ?_) (a' := ?_) #[true, true, true, true, true, true, true, true, true, true, true, true, true, true, true, true, true, true, true, true, false, false, false, false, false, false, false, false, false, false, false, false, false, false, false, false, false, false, false, false, false, false, false, false, false, false, false, false, false, false, false, false, false, false, false, false, false, false, false, false, false, false, false, false, false, false, false, false] rfl rfl (any_of HT_.out (by kernel_rfl)) (fun _ _ _ h => h) (Or.inl ⟨by rfl, ?_⟩) ?_ ?_
  rotate_left
  · intro w'
    go_simp
    with_reducible rfl
  rotate_left
  · simp only [Act.put, List.setIfInBounds_toArray, List.set_cons_zero, List.set_cons_succ, i64_w, i32_w]
    rfl
  refine pure_ (i := 20) (N := some 79) (v := ?_) (a' := ?_) #[true, true, true, true, true, true, true, true, true, true, true, true, true, true, true, true, true, true, true, true, true, false, false, false, false, false, false, false, false, false, false, false, false, false, false, false, false, false, false, false, false, false, false, false, false, false, false, false, false, false, false, false, false, false, false, false, false, false, false, false, false, false, false, false, false, false, false, false] rfl rfl (any_of HT_.out (by kernel_rfl)) (fun _ _ _ h => h) (Or.inl ⟨by rfl, ?_⟩) ?_ ?_
  rotate_left
  · intro w'
    go_simp
    with_reducible rfl
  rotate_left
  · simp only [Act.put, List.setIfInBounds_toArray, List.set_cons_zero, List.set_cons_succ, i64_w, i32_w]
    rfl
  refine pure_ (i := 21) (N := some 80) (v := ?_) (a' := ?_) #[true, true, true, true, true, true, true, true, true, true, true, true, true, true, true, true, true, true, true, true, true, true, false, false, false, false, false, false, false, false, false, false, false, false, false, false, false, false, false, false, false, false, false, false, false, false, false, false, false, false, false, false, false, false, false, false, false, false, false, false, false, false, false, false, false, false, false, false] rfl rfl (any_of HT_.out (by kernel_rfl)) (fun _ _ _ h => h) (Or.inl ⟨by rfl, ?_⟩) ?_ ?_
  rotate_left
  · intro w'
    go_simp
    with_reducible rfl
  rotate_left
  · simp only [Act.put, List.setIfInBounds_toArray, List.set_cons_zero, List.set_cons_succ, i64_w, i32_w]
    rfl
  refine pure_ (i := 22) (N := some 81) (v := ?_) (a' := ?_) #[true, true, true, true, true, true, true, true, true, true, true, true, true, true, true, true, true, true, true, true, true, true, true, false, false, false, false, false, false, false, false, false, false, false, false, false, false, false, false, false, false, false, false, false, false, false, false, false, false, false, false, false, false, false, false, false, false, false, false, false, false, false, false, false, false, false, false, false] rfl rfl (any_of HT_.out (by kernel_rfl)) (fun _ _ _ h => h) (Or.inl ⟨by rfl, ?_⟩) ?_ ?_
  rotate_left
  · intro w'
    go_simp
    with_reducible rfl
  rotate_left
  · simp only [Act.put, List.setIfInBounds_toArray, List.set_cons_zero, List.set_cons_succ, i64_w, i32_w]
    rfl
  refine pure_ (i := 23) (N := some 82) (v := ?_) (a' := ?_) #[true, true, true, true, true, true, true, true, true, true, true, true, true, true, true, true, true, true, true, true, true, true, true, true, false, false, false, false, false, false, false, false, false, false, false, false, false, false, false, false, false, false, false, false, false, false, false, false, false, false, false, false, false, false, false, false, false, false, false, false, false, false, false, false, false, false, false, false] rfl rfl (any_of HT_.out (by kernel_rfl)) (fun _ _ _ h => h) (Or.inl ⟨by rfl, ?_⟩) ?_ ?_
  rotate_left
  · intro w'
    go_simp
    with_reducible rfl
  rotate_left
  · simp only [Act.put, List.setIfInBounds_toArray, List.set_cons_zero, List.set_cons_succ, i64_w, i32_w]
    rfl
  refine pure_ (i := 24) (N := some 83) (v := ?_) (a' := ?_) #[true, true, true, true, true, true, true, true, true, true, true, true, true, true, true, true, true, true, true, true, true, true, true, true, true, false, false, false, false, false, false, false, false, false, false, false, false, false, false, false, false, false, false, false, false, false, false, false, false, false, false, false, false, false, false, false, false, false, false, false, false, false, false, false, false, false, false, false] rfl rfl (any_of HT_.out (by kernel_rfl)) (fun _ _ _ h => h) (Or.inl ⟨by rfl, ?_⟩) ?_ ?_
  rotate_left
  · intro w'
    go_simp
    with_reducible rfl
  rotate_left
  · simp only [Act.put, List.setIfInBounds_toArray, List.set_cons_zero, List.set_cons_succ, i64_w, i32_w]
    rfl
  refine pure_ (i := 25) (N := some 84) (v := ?_) (a' := ?_) #[true, true, true, true, true, true, true, true, true, true, true, true, true, true, true, true, true, true, true, true, true, true, true, true, true, true, false, false, false, false, false, false, false, false, false, false, false, false, false, false, false, false, false, false, false, false, false, false, false, false, false, false, false, false, false, false, false, false, false, false, false, false, false, false, false, false, false, false] rfl rfl (any_of HT_.out (by kernel_rfl)) (fun _ _ _ h => h) (Or.inl ⟨by rfl, ?_⟩) ?_ ?_
  rotate_left
  · intro w'
    go_simp
    with_reducible rfl
  rotate_left
  · simp only [Act.put, List.setIfInBounds_toArray, List.set_cons_zero, List.set_cons_succ, i64_w, i32_w]
    rfl
  refine pure_ (i := 26) (N := some 85) (v := ?_) (a' := ?_) #[true, true, true, true, true, true, true, true, true, true, true, true, true, true, true, true, true, true, true, true, true, true, true, true, true, true, true, false, false, false, false, false, false, false, false, false, false, false, false, false, false, false, false, false, false, false, false, false, false, false, false, false, false, false, false, false, false, false, false, false, false, false, false, false, false, false, false, false] rfl rfl (any_of HT_.out (by kernel_rfl)) (fun _ _ _ h => h) (Or.inl ⟨by rfl, ?_⟩) ?_ ?_
  rotate_left
  · intro w'
    go_simp
    with_reducible rfl
  rotate_left
  · simp only [Act.put, List.setIfInBounds_toArray, List.set_cons_zero, List.set_cons_succ, i64_w, i32_w]
    rfl
  refine pure_ (i := 27) (N := some 86) (v := ?_) (a' := ?_) #[true, true, true, true, true, true, true, true, true, true, true, true, true, true, true, true, true, true, true, true, true, true, true, true, true, true, true, true, false, false, false, false, false, false, false, false, false, false, false, false, false, false, false, false, false, false, false, false, false, false, false, false, false, false, false, false, false, false, false, false, false, false, false, false, false, false, false, false] rfl rfl (any_of HT_.out (by kernel_rfl)) (fun _ _ _ h => h) (Or.inl ⟨by rfl, ?_⟩) ?_ ?_
  rotate_left
  · intro w'
    go_simp
    with_reducible rfl
  rotate_left
  · simp only [Act.put, List.setIfInBounds_toArray, List.set_cons_zero, List.set_cons_succ, i64_w, i32_w]
    rfl
  refine pure_ (i := 28) (N := some 87) (v := ?_) (a' := ?_) #[true, true, true, true, true, true, true, true, true, true, true, true, true, true, true, true, true, true, true, true, true, true, true, true, true, true, true, true, true, false, false, false, false, false, false, false, false, false, false, false, false, false, false, false, false, false, false, false, false, false, false, false, false, false, false, false, false, false, false, false, false, false, false, false, false, false, false, false] rfl rfl (any_of HT_.out (by kernel_rfl)) (fun _ _ _ h => h) (Or.inl ⟨by rfl, ?_⟩) ?_ ?_
  rotate_left
  · intro w'
    go_simp
    with_reducible rfl
  rotate_left
  · simp only [Act.put, List.setIfInBounds_toArray, List.set_cons_zero, List.set_cons_succ, i64_w, i32_w]
    rfl
  refine pure_ (i := 29) (N := some 88) (v := ?_) (a' := ?_) #[true, true, true, true, true, true, true, true, true, true, true, true, true, true, true, true, true, true, true, true, true, true, true, true, true, true, true, true, true, true, false, false, false, false, false, false, false, false, false, false, false, false, false, false, false, false, false, false, false, false, false, false, false, false, false, false, false, false, false, false, false, false, false, false, false, false, false, false] rfl rfl (any_of HT_.out (by kernel_rfl)) (fun _ _ _ h => h) (Or.inl ⟨by rfl, ?_⟩) ?_ ?_
  rotate_left
  · intro w'
    go_simp
    with_reducible rfl
  rotate_left
  · simp only [Act.put, List.setIfInBounds_toArray, List.set_cons_zero, List.set_cons_succ, i64_w, i32_w]
    rfl
  refine pure_ (i := 30) (N := some 89) (v := ?_) (a' := ?_) #[true, true, true, true, true, true, true, true, true, true, true, true, true, true, true, true, true, true, true, true, true, true, true, true, true, true, true, true, true, true, true, false, false, false, false, false, false, false, false, false, false, false, false, false, false, false, false, false, false, false, false, false, false, false, false, false, false, false, false, false, false, false, false, false, false, false, false, false] rfl rfl (any_of HT_.out (by kernel_rfl)) (fun _ _ _ h => h) (Or.inl ⟨by rfl, ?_⟩) ?_ ?_
  rotate_left
  · intro w'
    go_simp
    with_reducible rfl
  rotate_left
  · simp only [Act.put, List.setIfInBounds_toArray, List.set_cons_zero, List.set_cons_succ, i64_w, i32_w]
    rfl
  refine take_ (i := 31) (N := some 90) (v := ?_) (a' := ?_) #[true, true, true, true, true, true, true, true, true, true, true, true, true, true, true, true, true, true, true, true, true, true, true, true, true, true, true, true, true, true, true, true, false, false, false, false, false, false, false, false, false, false, false, false, false, false, false, false, false, false, false, false, false, false, false, false, false, false, false, false, false, false, false, false, false, false, false, false] rfl rfl (take_ofW HT_.out HW_.out (by kernel_rfl)) (fun _ _ _ h => h) (Or.inl ⟨by rfl, ?_⟩) hHeld ?_ ?_
  rotate_left
  · rintro w' ⟨x0_, x1_, x2_, x3_, x4_⟩
    go_simp
    with_reducible rfl
  rotate_left
  · simp only [Act.put, List.setIfInBounds_toArray, List.set_cons_zero, List.set_cons_succ, i64_w, i32_w]
    rfl
  refine one_ (i := 32) (N := some 91) #[true, true, true, true, true, true, true, true, true, true, true, true, true, true, true, true, true, true, true, true, true, true, true, true, true, true, true, true, true, true, true, true, true, false, false, false, false, false, false, false, false, false, false, false, false, false, false, false, false, false, false, false, false, false, false, false, false, false, false, false, false, false, false, false, false, false, false, false] rfl rfl (one_of HT_.out (by kernel_rfl)) (by decide) (fun K hK => ?_)
  refine Kd.R_lit_step k49 _ 49 (by rfl) (N := 91) rfl (xs := [(⟨3, 0, 0, 0, 2⟩ : S49), (⟨1, 1, 0, 7, 0⟩ : S49)]) (inner := [.int .i64 3, .int .i64 0, .int .i64 0, .int .i64 0, .int .i64 2, .int .i64 1, .int .i64 1, .int .i64 0, .int .i64 7, .int .i64 0]) (ok := fun _ => True) (okp := fun _ => True) ?hr ?hp (fun _ hk => hk) trivial (Below.refl _ _) (Nat.le_refl _) (by simp) ?_
  case hr => first | (go_simp; done) | (go_simp; rfl)
  case hp => exact (Reps.c5 (show Kd.M k49 _ _ _ (⟨3, 0, 0, 0, 2⟩ : S49) [.int .i64 3, .int .i64 0, .int .i64 0, .int .i64 0, .int .i64 2] from (k49_mkM _ _ _ (⟨3, 0, 0, 0, 2⟩ : S49))) (Reps.c5 (show Kd.M k49 _ _ _ (⟨1, 1, 0, 7, 0⟩ : S49) [.int .i64 1, .int .i64 1, .int .i64 0, .int .i64 7, .int .i64 0] from (k49_mkM _ _ _ (⟨1, 1, 0, 7, 0⟩ : S49))) (Reps.none _ _)))
  intro v_ wl69 ho hb hg_ hnew_
  clear hg_ hnew_
  have n70_ : Aside0 (Below w.heap.size w wl69) := ⟨below_step HB.out hb⟩
  have n71_ : Aside0 (IsS58 w wl69 g (⟨#[]⟩ : ByteArray) 0) := ⟨IsS58.below HX.out hb⟩
  have n72_ : Aside0 (wl69.heap[g2]? = some (.cells #[.int .i64 1, .int .i64 1, .int .i64 0, .int .i64 7, .int .i64 0] 49 (0, 0))) := ⟨blk_below HO.out hb⟩
  have n73_ : Aside0 (Kd.R k49 49 wl69 w.heap.size (fun _ => True) (.slice raA (([] : List S49) : List S49).length raC) ([] : List S49)) := ⟨Kd.R_below RA.out hb⟩
  have n74_ : Aside0 (Kd.R k49 49 wl69 w.heap.size (fun _ => True) (.slice rcA ([(⟨3, 0, 0, 0, 2⟩ : S49), (⟨1, 1, 0, 7, 0⟩ : S49)] : List S49).length rcC) [(⟨3, 0, 0, 0, 2⟩ : S49), (⟨1, 1, 0, 7, 0⟩ : S49)]) := ⟨Kd.R_below RC.out hb⟩
  have n75_ : Aside0 (Kd.R k49 49 wl69 w.heap.size (fun _ => True) (.slice rdA ([(⟨3, 0, 0, 0, 1⟩ : S49)] : List S49).length rdC) [(⟨3, 0, 0, 0, 1⟩ : S49)]) := ⟨Kd.R_below RD.out hb⟩
  have n76_ : Aside0 (IsS58 w wl69 gy (s.extract 0 4) 3) := ⟨IsS58.below HY.out hb⟩
  have n77_ : Aside0 (Kd.R k49 49 wl69 w.heap.size (fun _ => True) v_ [(⟨3, 0, 0, 0, 2⟩ : S49), (⟨1, 1, 0, 7, 0⟩ : S49)]) := ⟨Kd.R_lower ho (below_size HB.out)⟩
  clear HB HX HO RA RC RD HY
  have HB := n70_
  have HX := n71_
  have HO := n72_
  have RA := n73_
  have RC := n74_
  have RD := n75_
  have HY := n76_
  have RE := n77_
  clear n70_ n71_ n72_ n73_ n74_ n75_ n76_ n77_
  clear ho hb
  obtain ⟨reA, reC, rfl⟩ := Kd.R_slice RE.out
  refine hK.out _ _ (⟨blk_cell (show wl69.heap[g2]? = _ from HO.out) 0, blk_cell (show wl69.heap[g2]? = _ from HO.out) 1, blk_cell (show wl69.heap[g2]? = _ from HO.out) 2, blk_cell (show wl69.heap[g2]? = _ from HO.out) 3, blk_cell (show wl69.heap[g2]? = _ from HO.out) 4⟩) (fun hHeld => ?_)
  clear hK K
  refine norm_ (a' := ?_) ?_ ?_
  rotate_left
  · show Act.put _ (some 91) _ = _
    simp only [Act.put, List.setIfInBounds_toArray, List.set_cons_zero, List.set_cons_succ, i64_w, i32_w]
    rfl
  refine one_ (i := 33) (N := some 92) #[true, true, true, true, true, true, true, true, true, true, true, true, true, true, true, true, true, true, true, true, true, true, true, true, true, true, true, true, true, true, true, true, true, true, false, false, false, false, false, false, false, false, false, false, false, false, false, false, false, false, false, false, false, false, false, false, false, false, false, false, false, false, false, false, false, false, false, false] rfl rfl (one_of HT_.out (by kernel_rfl)) (by decide) (fun K hK => ?_)
  obtain ⟨_, hc0, hC0⟩ := Kd.R_reads' RC.out
  obtain ⟨_, hc1, hC1⟩ := Kd.R_reads' RE.out
  refine goes_ Try.func15 (by kernel_rfl) rfl #[.slice rcA ([(⟨3, 0, 0, 0, 2⟩ : S49), (⟨1, 1, 0, 7, 0⟩ : S49)] : List S49).length rcC, .slice reA ([(⟨3, 0, 0, 0, 2⟩ : S49), (⟨1, 1, 0, 7, 0⟩ : S49)] : List S49).length reC] (by rfl) rfl rfl (by (try simp only [List.map_toArray, List.map_cons, List.map_nil]); first | done | rfl) ?_
  with_reducible refine (same_calls kk _ _ [(⟨3, 0, 0, 0, 2⟩ : S49), (⟨1, 1, 0, 7, 0⟩ : S49)] _ _ [(⟨3, 0, 0, 0, 2⟩ : S49), (⟨1, 1, 0, 7, 0⟩ : S49)] true _ hC0 hc0 hC1 hc1 A9.out).mono ?_
  rintro e ws78 ⟨rfl, hb⟩
  refine ⟨_, rfl, ?_⟩
  clear hc0 hC0 hc1 hC1
  have n79_ : Aside0 (Below w.heap.size w ws78) := ⟨below_step HB.out hb⟩
  have n80_ : Aside0 (IsS58 w ws78 g (⟨#[]⟩ : ByteArray) 0) := ⟨IsS58.below HX.out hb⟩
  have n81_ : Aside0 (ws78.heap[g2]? = some (.cells #[.int .i64 1, .int .i64 1, .int .i64 0, .int .i64 7, .int .i64 0] 49 (0, 0))) := ⟨blk_below HO.out hb⟩
  have n82_ : Aside0 (Kd.R k49 49 ws78 w.heap.size (fun _ => True) (.slice raA (([] : List S49) : List S49).length raC) ([] : List S49)) := ⟨Kd.R_below RA.out hb⟩
  have n83_ : Aside0 (Kd.R k49 49 ws78 w.heap.size (fun _ => True) (.slice rcA ([(⟨3, 0, 0, 0, 2⟩ : S49), (⟨1, 1, 0, 7, 0⟩ : S49)] : List S49).length rcC) [(⟨3, 0, 0, 0, 2⟩ : S49), (⟨1, 1, 0, 7, 0⟩ : S49)]) := ⟨Kd.R_below RC.out hb⟩
  have n84_ : Aside0 (Kd.R k49 49 ws78 w.heap.size (fun _ => True) (.slice rdA ([(⟨3, 0, 0, 0, 1⟩ : S49)] : List S49).length rdC) [(⟨3, 0, 0, 0, 1⟩ : S49)]) := ⟨Kd.R_below RD.out hb⟩
  have n85_ : Aside0 (IsS58 w ws78 gy (s.extract 0 4) 3) := ⟨IsS58.below HY.out hb⟩
  have n86_ : Aside0 (Kd.R k49 49 ws78 w.heap.size (fun _ => True) (.slice reA ([(⟨3, 0, 0, 0, 2⟩ : S49), (⟨1, 1, 0, 7, 0⟩ : S49)] : List S49).length reC) [(⟨3, 0, 0, 0, 2⟩ : S49), (⟨1, 1, 0, 7, 0⟩ : S49)]) := ⟨Kd.R_below RE.out hb⟩
  clear HB HX HO RA RC RD HY RE
  have HB := n79_
  have HX := n80_
  have HO := n81_
  have RA := n82_
  have RC := n83_
  have RD := n84_
  have HY := n85_
  have RE := n86_
  clear n79_ n80_ n81_ n82_ n83_ n84_ n85_ n86_
  clear hb
  refine hK.out _ _ (⟨blk_cell (show ws78.heap[g2]? = _ from HO.out) 0, blk_cell (show ws78.heap[g2]? = _ from HO.out) 1, blk_cell (show ws78.heap[g2]? = _ from HO.out) 2, blk_cell (show ws78.heap[g2]? = _ from HO.out) 3, blk_cell (show ws78.heap[g2]? = _ from HO.out) 4⟩) (fun hHeld => ?_)
  clear hK K
  refine norm_ (a' := ?_) ?_ ?_
  rotate_left
  · show Act.put _ (some 92) _ = _
    simp only [Act.put, List.setIfInBounds_toArray, List.set_cons_zero, List.set_cons_succ, i64_w, i32_w]
    rfl
  refine pure_ (i := 34) (N := some 93) (v := ?_) (a' := ?_) #[true, true, true, true, true, true, true, true, true, true, true, true, true, true, true, true, true, true, true, true, true, true, true, true, true, true, true, true, true, true, true, true, true, true, true, false, false, false, false, false, false, false, false, false, false, false, false, false, false, false, false, false, false, false, false, false, false, false, false, false, false, false, false, false, false, false, false, false] rfl rfl (any_of HT_.out (by kernel_rfl)) (fun _ _ _ h => h) (Or.inl ⟨by rfl, ?_⟩) ?_ ?_
  rotate_left
  · intro w'
    go_simp
    with_reducible rfl
  rotate_left
  · simp only [Act.put, List.setIfInBounds_toArray, List.set_cons_zero, List.set_cons_succ, i64_w, i32_w]
    rfl
  refine pure_ (i := 35) (N := some 94) (v := ?_) (a' := ?_) #[true, true, true, true, true, true, true, true, true, true, true, true, true, true, true, true, true, true, true, true, true, true, true, true, true, true, true, true, true, true, true, true, true, true, true, true, false, false, false, false, false, false, false, false, false, false, false, false, false, false, false, false, false, false, false, false, false, false, false, false, false, false, false, false, false, false, false, false] rfl rfl (any_of HT_.out (by kernel_rfl)) (fun _ _ _ h => h) (Or.inl ⟨by rfl, ?_⟩) ?_ ?_
  rotate_left
  · intro w'
    go_simp
    with_reducible rfl
  rotate_left
  · simp only [Act.put, List.setIfInBounds_toArray, List.set_cons_zero, List.set_cons_succ, i64_w, i32_w]
    rfl
  refine pure_ (i := 36) (N := some 95) (v := ?_) (a' := ?_) #[true, true, true, true, true, true, true, true, true, true, true, true, true, true, true, true, true, true, true, true, true, true, true, true, true, true, true, true, true, true, true, true, true, true, true, true, true, false, false, false, false, false, false, false, false, false, false, false, false, false, false, false, false, false, false, false, false, false, false, false, false, false, false, false, false, false, false, false] rfl rfl (any_of HT_.out (by kernel_rfl)) (fun _ _ _ h => h) (Or.inl ⟨by rfl, ?_⟩) ?_ ?_
  rotate_left
  · intro w'
    go_simp
    with_reducible rfl
  rotate_left
  · simp only [Act.put, List.setIfInBounds_toArray, List.set_cons_zero, List.set_cons_succ, i64_w, i32_w]
    rfl
  refine pure_ (i := 37) (N := some 96) (v := ?_) (a' := ?_) #[true, true, true, true, true, true, true, true, true, true, true, true, true, true, true, true, true, true, true, true, true, true, true, true, true, true, true, true, true, true, true, true, true, true, true, true, true, true, false, false, false, false, false, false, false, false, false, false, false, false, false, false, false, false, false, false, false, false, false, false, false, false, false, false, false, false, false, false] rfl rfl (any_of HT_.out (by kernel_rfl)) (fun _ _ _ h => h) (Or.inl ⟨by rfl, ?_⟩) ?_ ?_
  rotate_left
  · intro w'
    go_simp
    with_reducible rfl
  rotate_left
  · simp only [Act.put, List.setIfInBounds_toArray, List.set_cons_zero, List.set_cons_succ, i64_w, i32_w]
    rfl
  refine one_ (i := 38) (N := some 97) #[true, true, true, true, true, true, true, true, true, true, true, true, true, true, true, true, true, true, true, true, true, true, true, true, true, true, true, true, true, true, true, true, true, true, true, true, true, true, true, false, false, false, false, false, false, false, false, false, false, false, false, false, false, false, false, false, false, false, false, false, false, false, false, false, false, false, false, false] rfl rfl (one_of HT_.out (by kernel_rfl)) (by decide) (fun K hK => ?_)
  refine Kd.R_lit_step k49 _ 49 (by rfl) (N := 97) rfl (xs := [(⟨3, 0, 0, 0, 1⟩ : S49)]) (inner := [.int .i64 3, .int .i64 0, .int .i64 0, .int .i64 0, .int .i64 1]) (ok := fun _ => True) (okp := fun _ => True) ?hr ?hp (fun _ hk => hk) trivial (Below.refl _ _) (Nat.le_refl _) (by simp) ?_
  case hr => first | (go_simp; done) | (go_simp; rfl)
  case hp => exact (Reps.c5 (show Kd.M k49 _ _ _ (⟨3, 0, 0, 0, 1⟩ : S49) [.int .i64 3, .int .i64 0, .int .i64 0, .int .i64 0, .int .i64 1] from (k49_mkM _ _ _ (⟨3, 0, 0, 0, 1⟩ : S49))) (Reps.none _ _))
  intro v_ wl87 ho hb hg_ hnew_
  clear hg_ hnew_
  have n88_ : Aside0 (Below w.heap.size w wl87) := ⟨below_step HB.out hb⟩
  have n89_ : Aside0 (IsS58 w wl87 g (⟨#[]⟩ : ByteArray) 0) := ⟨IsS58.below HX.out hb⟩
  have n90_ : Aside0 (wl87.heap[g2]? = some (.cells #[.int .i64 1, .int .i64 1, .int .i64 0, .int .i64 7, .int .i64 0] 49 (0, 0))) := ⟨blk_below HO.out hb⟩
  have n91_ : Aside0 (Kd.R k49 49 wl87 w.heap.size (fun _ => True) (.slice raA (([] : List S49) : List S49).length raC) ([] : List S49)) := ⟨Kd.R_below RA.out hb⟩
  have n92_ : Aside0 (Kd.R k49 49 wl87 w.heap.size (fun _ => True) (.slice rcA ([(⟨3, 0, 0, 0, 2⟩ : S49), (⟨1, 1, 0, 7, 0⟩ : S49)] : List S49).length rcC) [(⟨3, 0, 0, 0, 2⟩ : S49), (⟨1, 1, 0, 7, 0⟩ : S49)]) := ⟨Kd.R_below RC.out hb⟩
  have n93_ : Aside0 (Kd.R k49 49 wl87 w.heap.size (fun _ => True) (.slice rdA ([(⟨3, 0, 0, 0, 1⟩ : S49)] : List S49).length rdC) [(⟨3, 0, 0, 0, 1⟩ : S49)]) := ⟨Kd.R_below RD.out hb⟩
  have n94_ : Aside0 (IsS58 w wl87 gy (s.extract 0 4) 3) := ⟨IsS58.below HY.out hb⟩
  have n95_ : Aside0 (Kd.R k49 49 wl87 w.heap.size (fun _ => True) (.slice reA ([(⟨3, 0, 0, 0, 2⟩ : S49), (⟨1, 1, 0, 7, 0⟩ : S49)] : List S49).length reC) [(⟨3, 0, 0, 0, 2⟩ : S49), (⟨1, 1, 0, 7, 0⟩ : S49)]) := ⟨Kd.R_below RE.out hb⟩
  have n96_ : Aside0 (Kd.R k49 49 wl87 w.heap.size (fun _ => True) v_ [(⟨3, 0, 0, 0, 1⟩ : S49)]) := ⟨Kd.R_lower ho (below_size HB.out)⟩
  clear HB HX HO RA RC RD HY RE
  have HB := n88_
  have HX := n89_
  have HO := n90_
  have RA := n91_
  have RC := n92_
  have RD := n93_
  have HY := n94_
  have RE := n95_
  have RF := n96_
  clear n88_ n89_ n90_ n91_ n92_ n93_ n94_ n95_ n96_
  clear ho hb
  obtain ⟨rfA, rfC, rfl⟩ := Kd.R_slice RF.out
  refine hK.out _ _ (⟨blk_cell (show wl87.heap[g2]? = _ from HO.out) 0, blk_cell (show wl87.heap[g2]? = _ from HO.out) 1, blk_cell (show wl87.heap[g2]? = _ from HO.out) 2, blk_cell (show wl87.heap[g2]? = _ from HO.out) 3, blk_cell (show wl87.heap[g2]? = _ from HO.out) 4⟩) (fun hHeld => ?_)
  clear hK K
  refine norm_ (a' := ?_) ?_ ?_
  rotate_left
  · show Act.put _ (some 97) _ = _
    simp only [Act.put, List.setIfInBounds_toArray, List.set_cons_zero, List.set_cons_succ, i64_w, i32_w]
    rfl
  refine one_ (i := 39) (N := some 98) #[true, true, true, true, true, true, true, true, true, true, true, true, true, true, true, true, true, true, true, true, true, true, true, true, true, true, true, true, true, true, true, true, true, true, true, true, true, true, true, true, false, false, false, false, false, false, false, false, false, false, false, false, false, false, false, false, false, false, false, false, false, false, false, false, false, false, false, false] rfl rfl (one_of HT_.out (by kernel_rfl)) (by decide) (fun K hK => ?_)
  obtain ⟨_, hc0, hC0⟩ := Kd.R_reads' RD.out
  obtain ⟨_, hc1, hC1⟩ := Kd.R_reads' RF.out
  refine goes_ Try.func15 (by kernel_rfl) rfl #[.slice rdA ([(⟨3, 0, 0, 0, 1⟩ : S49)] : List S49).length rdC, .slice rfA ([(⟨3, 0, 0, 0, 1⟩ : S49)] : List S49).length rfC] (by rfl) rfl rfl (by (try simp only [List.map_toArray, List.map_cons, List.map_nil]); first | done | rfl) ?_
  with_reducible refine (same_calls kk _ _ [(⟨3, 0, 0, 0, 1⟩ : S49)] _ _ [(⟨3, 0, 0, 0, 1⟩ : S49)] true _ hC0 hc0 hC1 hc1 A10.out).mono ?_
  rintro e ws97 ⟨rfl, hb⟩
  refine ⟨_, rfl, ?_⟩
  clear hc0 hC0 hc1 hC1
  have n98_ : Aside0 (Below w.heap.size w ws97) := ⟨below_step HB.out hb⟩
  have n99_ : Aside0 (IsS58 w ws97 g (⟨#[]⟩ : ByteArray) 0) := ⟨IsS58.below HX.out hb⟩
  have n100_ : Aside0 (ws97.heap[g2]? = some (.cells #[.int .i64 1, .int .i64 1, .int .i64 0, .int .i64 7, .int .i64 0] 49 (0, 0))) := ⟨blk_below HO.out hb⟩
  have n101_ : Aside0 (Kd.R k49 49 ws97 w.heap.size (fun _ => True) (.slice raA (([] : List S49) : List S49).length raC) ([] : List S49)) := ⟨Kd.R_below RA.out hb⟩
  have n102_ : Aside0 (Kd.R k49 49 ws97 w.heap.size (fun _ => True) (.slice rcA ([(⟨3, 0, 0, 0, 2⟩ : S49), (⟨1, 1, 0, 7, 0⟩ : S49)] : List S49).length rcC) [(⟨3, 0, 0, 0, 2⟩ : S49), (⟨1, 1, 0, 7, 0⟩ : S49)]) := ⟨Kd.R_below RC.out hb⟩
  have n103_ : Aside0 (Kd.R k49 49 ws97 w.heap.size (fun _ => True) (.slice rdA ([(⟨3, 0, 0, 0, 1⟩ : S49)] : List S49).length rdC) [(⟨3, 0, 0, 0, 1⟩ : S49)]) := ⟨Kd.R_below RD.out hb⟩
  have n104_ : Aside0 (IsS58 w ws97 gy (s.extract 0 4) 3) := ⟨IsS58.below HY.out hb⟩
  have n105_ : Aside0 (Kd.R k49 49 ws97 w.heap.size (fun _ => True) (.slice reA ([(⟨3, 0, 0, 0, 2⟩ : S49), (⟨1, 1, 0, 7, 0⟩ : S49)] : List S49).length reC) [(⟨3, 0, 0, 0, 2⟩ : S49), (⟨1, 1, 0, 7, 0⟩ : S49)]) := ⟨Kd.R_below RE.out hb⟩
  have n106_ : Aside0 (Kd.R k49 49 ws97 w.heap.size (fun _ => True) (.slice rfA ([(⟨3, 0, 0, 0, 1⟩ : S49)] : List S49).length rfC) [(⟨3, 0, 0, 0, 1⟩ : S49)]) := ⟨Kd.R_below RF.out hb⟩
  clear HB HX HO RA RC RD HY RE RF
  have HB := n98_
  have HX := n99_
  have HO := n100_
  have RA := n101_
  have RC := n102_
  have RD := n103_
  have HY := n104_
  have RE := n105_
  have RF := n106_
  clear n98_ n99_ n100_ n101_ n102_ n103_ n104_ n105_ n106_
  clear hb
  refine hK.out _ _ (⟨blk_cell (show ws97.heap[g2]? = _ from HO.out) 0, blk_cell (show ws97.heap[g2]? = _ from HO.out) 1, blk_cell (show ws97.heap[g2]? = _ from HO.out) 2, blk_cell (show ws97.heap[g2]? = _ from HO.out) 3, blk_cell (show ws97.heap[g2]? = _ from HO.out) 4⟩) (fun hHeld => ?_)
  clear hK K
  refine norm_ (a' := ?_) ?_ ?_
  rotate_left
  · show Act.put _ (some 98) _ = _
    simp only [Act.put, List.setIfInBounds_toArray, List.set_cons_zero, List.set_cons_succ, i64_w, i32_w]
    rfl
  refine pure_ (i := 40) (N := some 99) (v := ?_) (a' := ?_) #[true, true, true, true, true, true, true, true, true, true, true, true, true, true, true, true, true, true, true, true, true, true, true, true, true, true, true, true, true, true, true, true, true, true, true, true, true, true, true, true, true, false, false, false, false, false, false, false, false, false, false, false, false, false, false, false, false, false, false, false, false, false, false, false, false, false, false, false] rfl rfl (any_of HT_.out (by kernel_rfl)) (fun _ _ _ h => h) (Or.inl ⟨by rfl, ?_⟩) ?_ ?_
  rotate_left
  · intro w'
    go_simp
    with_reducible rfl
  rotate_left
  · simp only [Act.put, List.setIfInBounds_toArray, List.set_cons_zero, List.set_cons_succ, i64_w, i32_w]
    rfl
  refine pure_ (i := 41) (N := some 100) (v := ?_) (a' := ?_) #[true, true, true, true, true, true, true, true, true, true, true, true, true, true, true, true, true, true, true, true, true, true, true, true, true, true, true, true, true, true, true, true, true, true, true, true, true, true, true, true, true, true, false, false, false, false, false, false, false, false, false, false, false, false, false, false, false, false, false, false, false, false, false, false, false, false, false, false] rfl rfl (any_of HT_.out (by kernel_rfl)) (fun _ _ _ h => h) (Or.inl ⟨by rfl, ?_⟩) ?_ ?_
  rotate_left
  · intro w'
    go_simp
    with_reducible rfl
  rotate_left
  · simp only [Act.put, List.setIfInBounds_toArray, List.set_cons_zero, List.set_cons_succ, i64_w, i32_w]
    rfl
  refine pure_ (i := 42) (N := some 101) (v := ?_) (a' := ?_) #[true, true, true, true, true, true, true, true, true, true, true, true, true, true, true, true, true, true, true, true, true, true, true, true, true, true, true, true, true, true, true, true, true, true, true, true, true, true, true, true, true, true, true, false, false, false, false, false, false, false, false, false, false, false, false, false, false, false, false, false, false, false, false, false, false, false, false, false] rfl rfl (any_of HT_.out (by kernel_rfl)) (fun _ _ _ h => h) (Or.inl ⟨by rfl, ?_⟩) ?_ ?_
  rotate_left
  · intro w'
    go_simp
    with_reducible rfl
  rotate_left
  · simp only [Act.put, List.setIfInBounds_toArray, List.set_cons_zero, List.set_cons_succ, i64_w, i32_w]
    rfl
  refine one_ (i := 43) (N := some 102) #[true, true, true, true, true, true, true, true, true, true, true, true, true, true, true, true, true, true, true, true, true, true, true, true, true, true, true, true, true, true, true, true, true, true, true, true, true, true, true, true, true, true, true, true, false, false, false, false, false, false, false, false, false, false, false, false, false, false, false, false, false, false, false, false, false, false, false, false] rfl rfl (one_of HT_.out (by kernel_rfl)) (by decide) (fun K hK => ?_)
  refine goes_ Try.func12 (by kernel_rfl) rfl #[.int .i64 1100] (by rfl) rfl rfl (by (try simp only [List.map_toArray, List.map_cons, List.map_nil]); first | done | rfl) ?_
  with_reducible refine (num_calls 1100 _).mono ?_
  rintro e w5_ ⟨rfl, rfl⟩
  refine ⟨_, rfl, ?_⟩
  refine hK.out _ _ (⟨blk_cell (show ws97.heap[g2]? = _ from HO.out) 0, blk_cell (show ws97.heap[g2]? = _ from HO.out) 1, blk_cell (show ws97.heap[g2]? = _ from HO.out) 2, blk_cell (show ws97.heap[g2]? = _ from HO.out) 3, blk_cell (show ws97.heap[g2]? = _ from HO.out) 4⟩) (fun hHeld => ?_)
  clear hK K
  refine norm_ (a' := ?_) ?_ ?_
  rotate_left
  · show Act.put _ (some 102) _ = _
    simp only [Act.put, List.setIfInBounds_toArray, List.set_cons_zero, List.set_cons_succ, i64_w, i32_w]
    rfl
  refine pure_ (i := 44) (N := some 103) (v := ?_) (a' := ?_) #[true, true, true, true, true, true, true, true, true, true, true, true, true, true, true, true, true, true, true, true, true, true, true, true, true, true, true, true, true, true, true, true, true, true, true, true, true, true, true, true, true, true, true, true, true, false, false, false, false, false, false, false, false, false, false, false, false, false, false, false, false, false, false, false, false, false, false, false] rfl rfl (any_of HT_.out (by kernel_rfl)) (fun _ _ _ h => h) (Or.inl ⟨by rfl, ?_⟩) ?_ ?_
  rotate_left
  · intro w'
    go_simp
    with_reducible rfl
  rotate_left
  · simp only [Act.put, List.setIfInBounds_toArray, List.set_cons_zero, List.set_cons_succ, i64_w, i32_w]
    rfl
  refine pure_ (i := 45) (N := some 104) (v := ?_) (a' := ?_) #[true, true, true, true, true, true, true, true, true, true, true, true, true, true, true, true, true, true, true, true, true, true, true, true, true, true, true, true, true, true, true, true, true, true, true, true, true, true, true, true, true, true, true, true, true, true, false, false, false, false, false, false, false, false, false, false, false, false, false, false, false, false, false, false, false, false, false, false] rfl rfl (any_of HT_.out (by kernel_rfl)) (fun _ _ _ h => h) (Or.inl ⟨by rfl, ?_⟩) ?_ ?_
  rotate_left
  · intro w'
    go_simp
    with_reducible rfl
  rotate_left
  · simp only [Act.put, List.setIfInBounds_toArray, List.set_cons_zero, List.set_cons_succ, i64_w, i32_w]
    rfl
  refine pure_ (i := 46) (N := some 105) (v := ?_) (a' := ?_) #[true, true, true, true, true, true, true, true, true, true, true, true, true, true, true, true, true, true, true, true, true, true, true, true, true, true, true, true, true, true, true, true, true, true, true, true, true, true, true, true, true, true, true, true, true, true, true, false, false, false, false, false, false, false, false, false, false, false, false, false, false, false, false, false, false, false, false, false] rfl rfl (any_of HT_.out (by kernel_rfl)) (fun _ _ _ h => h) (Or.inl ⟨by rfl, ?_⟩) ?_ ?_
  rotate_left
  · intro w'
    go_simp
    with_reducible rfl
  rotate_left
  · simp only [Act.put, List.setIfInBounds_toArray, List.set_cons_zero, List.set_cons_succ, i64_w, i32_w]
    rfl
  refine pure_ (i := 47) (N := some 106) (v := ?_) (a' := ?_) #[true, true, true, true, true, true, true, true, true, true, true, true, true, true, true, true, true, true, true, true, true, true, true, true, true, true, true, true, true, true, true, true, true, true, true, true, true, true, true, true, true, true, true, true, true, true, true, true, false, false, false, false, false, false, false, false, false, false, false, false, false, false, false, false, false, false, false, false] rfl rfl (any_of HT_.out (by kernel_rfl)) (fun _ _ _ h => h) (Or.inl ⟨by rfl, ?_⟩) ?_ ?_
  rotate_left
  · intro w'
    go_simp
    with_reducible rfl
  rotate_left
  · simp only [Act.put, List.setIfInBounds_toArray, List.set_cons_zero, List.set_cons_succ, i64_w, i32_w]
    rfl
  refine one_ (i := 48) (N := some 107) #[true, true, true, true, true, true, true, true, true, true, true, true, true, true, true, true, true, true, true, true, true, true, true, true, true, true, true, true, true, true, true, true, true, true, true, true, true, true, true, true, true, true, true, true, true, true, true, true, true, false, false, false, false, false, false, false, false, false, false, false, false, false, false, false, false, false, false, false] rfl rfl (one_of HT_.out (by kernel_rfl)) (by decide) (fun K hK => ?_)
  refine goes_ Try.func12 (by kernel_rfl) rfl #[.int .i64 0] (by rfl) rfl rfl (by (try simp only [List.map_toArray, List.map_cons, List.map_nil]); first | done | rfl) ?_
  with_reducible refine (num_calls 0 _).mono ?_
  rintro e w5_ ⟨rfl, rfl⟩
  refine ⟨_, rfl, ?_⟩
  refine hK.out _ _ (⟨blk_cell (show ws97.heap[g2]? = _ from HO.out) 0, blk_cell (show ws97.heap[g2]? = _ from HO.out) 1, blk_cell (show ws97.heap[g2]? = _ from HO.out) 2, blk_cell (show ws97.heap[g2]? = _ from HO.out) 3, blk_cell (show ws97.heap[g2]? = _ from HO.out) 4⟩) (fun hHeld => ?_)
  clear hK K
  refine norm_ (a' := ?_) ?_ ?_
  rotate_left
  · show Act.put _ (some 107) _ = _
    simp only [Act.put, List.setIfInBounds_toArray, List.set_cons_zero, List.set_cons_succ, i64_w, i32_w]
    rfl
  refine pure_ (i := 49) (N := some 108) (v := ?_) (a' := ?_) #[true, true, true, true, true, true, true, true, true, true, true, true, true, true, true, true, true, true, true, true, true, true, true, true, true, true, true, true, true, true, true, true, true, true, true, true, true, true, true, true, true, true, true, true, true, true, true, true, true, true, false, false, false, false, false, false, false, false, false, false, false, false, false, false, false, false, false, false] rfl rfl (any_of HT_.out (by kernel_rfl)) (fun _ _ _ h => h) (Or.inl ⟨by rfl, ?_⟩) ?_ ?_
  rotate_left
  · intro w'
    go_simp
    with_reducible rfl
  rotate_left
  · simp only [Act.put, List.setIfInBounds_toArray, List.set_cons_zero, List.set_cons_succ, i64_w, i32_w]
    rfl
  refine pure_ (i := 50) (N := some 109) (v := ?_) (a' := ?_) #[true, true, true, true, true, true, true, true, true, true, true, true, true, true, true, true, true, true, true, true, true, true, true, true, true, true, true, true, true, true, true, true, true, true, true, true, true, true, true, true, true, true, true, true, true, true, true, true, true, true, true, false, false, false, false, false, false, false, false, false, false, false, false, false, false, false, false, false] rfl rfl (any_of HT_.out (by kernel_rfl)) (fun _ _ _ h => h) (Or.inl ⟨by rfl, ?_⟩) ?_ ?_
  rotate_left
  · intro w'
    go_simp
    with_reducible rfl
  rotate_left
  · simp only [Act.put, List.setIfInBounds_toArray, List.set_cons_zero, List.set_cons_succ, i64_w, i32_w]
    rfl
  refine pure_ (i := 51) (N := some 110) (v := ?_) (a' := ?_) #[true, true, true, true, true, true, true, true, true, true, true, true, true, true, true, true, true, true, true, true, true, true, true, true, true, true, true, true, true, true, true, true, true, true, true, true, true, true, true, true, true, true, true, true, true, true, true, true, true, true, true, true, false, false, false, false, false, false, false, false, false, false, false, false, false, false, false, false] rfl rfl (any_of HT_.out (by kernel_rfl)) (fun _ _ _ h => h) (Or.inl ⟨by rfl, ?_⟩) ?_ ?_
  rotate_left
  · intro w'
    go_simp
    with_reducible rfl
  rotate_left
  · simp only [Act.put, List.setIfInBounds_toArray, List.set_cons_zero, List.set_cons_succ, i64_w, i32_w]
    rfl
  refine pure_ (i := 52) (N := some 111) (v := ?_) (a' := ?_) #[true, true, true, true, true, true, true, true, true, true, true, true, true, true, true, true, true, true, true, true, true, true, true, true, true, true, true, true, true, true, true, true, true, true, true, true, true, true, true, true, true, true, true, true, true, true, true, true, true, true, true, true, true, false, false, false, false, false, false, false, false, false, false, false, false, false, false, false] rfl rfl (any_of HT_.out (by kernel_rfl)) (fun _ _ _ h => h) (Or.inl ⟨by rfl, ?_⟩) ?_ ?_
  rotate_left
  · intro w'
    go_simp
    with_reducible rfl
  rotate_left
  · simp only [Act.put, List.setIfInBounds_toArray, List.set_cons_zero, List.set_cons_succ, i64_w, i32_w]
    rfl
  refine pure_ (i := 53) (N := some 112) (v := ?_) (a' := ?_) #[true, true, true, true, true, true, true, true, true, true, true, true, true, true, true, true, true, true, true, true, true, true, true, true, true, true, true, true, true, true, true, true, true, true, true, true, true, true, true, true, true, true, true, true, true, true, true, true, true, true, true, true, true, true, false, false, false, false, false, false, false, false, false, false, false, false, false, false] rfl rfl (any_of HT_.out (by kernel_rfl)) (fun _ _ _ h => h) (Or.inl ⟨by rfl, ?_⟩) ?_ ?_
  rotate_left
  · intro w'
    go_simp
    with_reducible rfl
  rotate_left
  · simp only [Act.put, List.setIfInBounds_toArray, List.set_cons_zero, List.set_cons_succ, i64_w, i32_w]
    rfl
  refine pure_ (i := 54) (N := some 113) (v := ?_) (a' := ?_) #[true, true, true, true, true, true, true, true, true, true, true, true, true, true, true, true, true, true, true, true, true, true, true, true, true, true, true, true, true, true, true, true, true, true, true, true, true, true, true, true, true, true, true, true, true, true, true, true, true, true, true, true, true, true, true, false, false, false, false, false, false, false, false, false, false, false, false, false] rfl rfl (any_of HT_.out (by kernel_rfl)) (fun _ _ _ h => h) (Or.inl ⟨by rfl, ?_⟩) ?_ ?_
  rotate_left
  · intro w'
    go_simp
    with_reducible rfl
  rotate_left
  · simp only [Act.put, List.setIfInBounds_toArray, List.set_cons_zero, List.set_cons_succ, i64_w, i32_w]
    rfl
  refine pure_ (i := 55) (N := some 114) (v := ?_) (a' := ?_) #[true, true, true, true, true, true, true, true, true, true, true, true, true, true, true, true, true, true, true, true, true, true, true, true, true, true, true, true, true, true, true, true, true, true, true, true, true, true, true, true, true, true, true, true, true, true, true, true, true, true, true, true, true, true, true, true, false, false, false, false, false, false, false, false, false, false, false, false] rfl rfl (any_of HT_.out (by kernel_rfl)) (fun _ _ _ h => h) (Or.inl ⟨by rfl, ?_⟩) ?_ ?_
  rotate_left
  · intro w'
    go_simp
    with_reducible rfl
  rotate_left
  · simp only [Act.put, List.setIfInBounds_toArray, List.set_cons_zero, List.set_cons_succ, i64_w, i32_w]
    rfl
  refine pure_ (i := 56) (N := some 115) (v := ?_) (a' := ?_) #[true, true, true, true, true, true, true, true, true, true, true, true, true, true, true, true, true, true, true, true, true, true, true, true, true, true, true, true, true, true, true, true, true, true, true, true, true, true, true, true, true, true, true, true, true, true, true, true, true, true, true, true, true, true, true, true, true, false, false, false, false, false, false, false, false, false, false, false] rfl rfl (any_of HT_.out (by kernel_rfl)) (fun _ _ _ h => h) (Or.inl ⟨by rfl, ?_⟩) ?_ ?_
  rotate_left
  · intro w'
    go_simp
    with_reducible rfl
  rotate_left
  · simp only [Act.put, List.setIfInBounds_toArray, List.set_cons_zero, List.set_cons_succ, i64_w, i32_w]
    rfl
  refine pure_ (i := 58) (N := some 117) (v := ?_) (a' := ?_) #[true, true, true, true, true, true, true, true, true, true, true, true, true, true, true, true, true, true, true, true, true, true, true, true, true, true, true, true, true, true, true, true, true, true, true, true, true, true, true, true, true, true, true, true, true, true, true, true, true, true, true, true, true, true, true, true, true, false, true, false, false, false, false, false, false, false, false, false] rfl rfl (any_of HT_.out (by kernel_rfl)) (fun _ _ _ h => h) (Or.inl ⟨by rfl, ?_⟩) ?_ ?_
  rotate_left
  · intro w'
    go_simp
    with_reducible rfl
  rotate_left
  · simp only [Act.put, List.setIfInBounds_toArray, List.set_cons_zero, List.set_cons_succ, i64_w, i32_w]
    rfl
  refine pure_ (i := 59) (N := some 118) (v := ?_) (a' := ?_) #[true, true, true, true, true, true, true, true, true, true, true, true, true, true, true, true, true, true, true, true, true, true, true, true, true, true, true, true, true, true, true, true, true, true, true, true, true, true, true, true, true, true, true, true, true, true, true, true, true, true, true, true, true, true, true, true, true, false, true, true, false, false, false, false, false, false, false, false] rfl rfl (any_of HT_.out (by kernel_rfl)) (fun _ _ _ h => h) (Or.inl ⟨by rfl, ?_⟩) ?_ ?_
  rotate_left
  · intro w'
    go_simp
    with_reducible rfl
  rotate_left
  · simp only [Act.put, List.setIfInBounds_toArray, List.set_cons_zero, List.set_cons_succ, i64_w, i32_w]
    rfl
  refine one_ (i := 57) (N := some 116) #[true, true, true, true, true, true, true, true, true, true, true, true, true, true, true, true, true, true, true, true, true, true, true, true, true, true, true, true, true, true, true, true, true, true, true, true, true, true, true, true, true, true, true, true, true, true, true, true, true, true, true, true, true, true, true, true, true, true, true, true, false, false, false, false, false, false, false, false] rfl rfl (one_of HT_.out (by kernel_rfl)) (by decide) (fun K hK => ?_)
  refine goes_ Try.func16 (by kernel_rfl) rfl #[.pointer (some ⟨gy, 0, none⟩)] (by rfl) rfl rfl (by (try simp only [List.map_toArray, List.map_cons, List.map_nil]); first | done | rfl) ?_
  with_reducible refine (scan_Scanner_Waits.calls gy _ _ _ _ _ w _ HY.out HB.out rfl).mono ?_
  rintro e wy107 ⟨rfl, hi, hb, hk⟩
  refine ⟨_, rfl, ?_⟩
  have n108_ : Aside0 (Below w.heap.size w wy107) := ⟨hb⟩
  have n109_ : Aside0 (IsS58 w wy107 g (⟨#[]⟩ : ByteArray) 0) := ⟨st_keep HX.out hk hny.symm⟩
  have n110_ : Aside0 (wy107.heap[g2]? = some (.cells #[.int .i64 1, .int .i64 1, .int .i64 0, .int .i64 7, .int .i64 0] 49 (0, 0))) := ⟨blk_keep HO.out (by decide) HY.out hk⟩
  have n111_ : Aside0 (Kd.R k49 49 wy107 w.heap.size (fun _ => True) (.slice raA (([] : List S49) : List S49).length raC) ([] : List S49)) := ⟨rw_keep RA.out HY.out hk⟩
  have n112_ : Aside0 (Kd.R k49 49 wy107 w.heap.size (fun _ => True) (.slice rcA ([(⟨3, 0, 0, 0, 2⟩ : S49), (⟨1, 1, 0, 7, 0⟩ : S49)] : List S49).length rcC) [(⟨3, 0, 0, 0, 2⟩ : S49), (⟨1, 1, 0, 7, 0⟩ : S49)]) := ⟨rw_keep RC.out HY.out hk⟩
  have n113_ : Aside0 (Kd.R k49 49 wy107 w.heap.size (fun _ => True) (.slice rdA ([(⟨3, 0, 0, 0, 1⟩ : S49)] : List S49).length rdC) [(⟨3, 0, 0, 0, 1⟩ : S49)]) := ⟨rw_keep RD.out HY.out hk⟩
  have n114_ : Aside0 (IsS58 w wy107 gy (s.extract 0 4) 3) := ⟨hi⟩
  have n115_ : Aside0 (Kd.R k49 49 wy107 w.heap.size (fun _ => True) (.slice reA ([(⟨3, 0, 0, 0, 2⟩ : S49), (⟨1, 1, 0, 7, 0⟩ : S49)] : List S49).length reC) [(⟨3, 0, 0, 0, 2⟩ : S49), (⟨1, 1, 0, 7, 0⟩ : S49)]) := ⟨rw_keep RE.out HY.out hk⟩
  have n116_ : Aside0 (Kd.R k49 49 wy107 w.heap.size (fun _ => True) (.slice rfA ([(⟨3, 0, 0, 0, 1⟩ : S49)] : List S49).length rfC) [(⟨3, 0, 0, 0, 1⟩ : S49)]) := ⟨rw_keep RF.out HY.out hk⟩
  clear HB HX HO RA RC RD HY RE RF
  have HB := n108_
  have HX := n109_
  have HO := n110_
  have RA := n111_
  have RC := n112_
  have RD := n113_
  have HY := n114_
  have RE := n115_
  have RF := n116_
  clear n108_ n109_ n110_ n111_ n112_ n113_ n114_ n115_ n116_
  clear hi hb hk
  refine hK.out _ _ (⟨blk_cell (show wy107.heap[g2]? = _ from HO.out) 0, blk_cell (show wy107.heap[g2]? = _ from HO.out) 1, blk_cell (show wy107.heap[g2]? = _ from HO.out) 2, blk_cell (show wy107.heap[g2]? = _ from HO.out) 3, blk_cell (show wy107.heap[g2]? = _ from HO.out) 4⟩) (fun hHeld => ?_)
  clear hK K
  refine norm_ (a' := ?_) ?_ ?_
  rotate_left
  · show Act.put _ (some 116) _ = _
    simp only [Act.put, List.setIfInBounds_toArray, List.set_cons_zero, List.set_cons_succ, i64_w, i32_w]
    rfl
  refine pure_ (i := 60) (N := some 119) (v := ?_) (a' := ?_) #[true, true, true, true, true, true, true, true, true, true, true, true, true, true, true, true, true, true, true, true, true, true, true, true, true, true, true, true, true, true, true, true, true, true, true, true, true, true, true, true, true, true, true, true, true, true, true, true, true, true, true, true, true, true, true, true, true, true, true, true, true, false, false, false, false, false, false, false] rfl rfl (any_of HT_.out (by kernel_rfl)) (fun _ _ _ h => h) (Or.inl ⟨by rfl, ?_⟩) ?_ ?_
  rotate_left
  · intro w'
    go_simp
    with_reducible rfl
  rotate_left
  · simp only [Act.put, List.setIfInBounds_toArray, List.set_cons_zero, List.set_cons_succ, i64_w, i32_w]
    rfl
  refine pure_ (i := 61) (N := some 120) (v := ?_) (a' := ?_) #[true, true, true, true, true, true, true, true, true, true, true, true, true, true, true, true, true, true, true, true, true, true, true, true, true, true, true, true, true, true, true, true, true, true, true, true, true, true, true, true, true, true, true, true, true, true, true, true, true, true, true, true, true, true, true, true, true, true, true, true, true, true, false, false, false, false, false, false] rfl rfl (any_of HT_.out (by kernel_rfl)) (fun _ _ _ h => h) (Or.inl ⟨by rfl, ?_⟩) ?_ ?_
  rotate_left
  · intro w'
    go_simp
    with_reducible rfl
  rotate_left
  · simp only [Act.put, List.setIfInBounds_toArray, List.set_cons_zero, List.set_cons_succ, i64_w, i32_w]
    rfl
  refine pure_ (i := 62) (N := some 121) (v := ?_) (a' := ?_) #[true, true, true, true, true, true, true, true, true, true, true, true, true, true, true, true, true, true, true, true, true, true, true, true, true, true, true, true, true, true, true, true, true, true, true, true, true, true, true, true, true, true, true, true, true, true, true, true, true, true, true, true, true, true, true, true, true, true, true, true, true, true, true, false, false, false, false, false] rfl rfl (any_of HT_.out (by kernel_rfl)) (fun _ _ _ h => h) (Or.inl ⟨by rfl, ?_⟩) ?_ ?_
  rotate_left
  · intro w'
    go_simp
    with_reducible rfl
  rotate_left
  · simp only [Act.put, List.setIfInBounds_toArray, List.set_cons_zero, List.set_cons_succ, i64_w, i32_w]
    rfl
  refine pure_ (i := 63) (N := some 122) (v := ?_) (a' := ?_) #[true, true, true, true, true, true, true, true, true, true, true, true, true, true, true, true, true, true, true, true, true, true, true, true, true, true, true, true, true, true, true, true, true, true, true, true, true, true, true, true, true, true, true, true, true, true, true, true, true, true, true, true, true, true, true, true, true, true, true, true, true, true, true, true, false, false, false, false] rfl rfl (any_of HT_.out (by kernel_rfl)) (fun _ _ _ h => h) (Or.inl ⟨by rfl, ?_⟩) ?_ ?_
  rotate_left
  · intro w'
    go_simp
    with_reducible rfl
  rotate_left
  · simp only [Act.put, List.setIfInBounds_toArray, List.set_cons_zero, List.set_cons_succ, i64_w, i32_w]
    rfl
  refine one_ (i := 64) (N := some 123) #[true, true, true, true, true, true, true, true, true, true, true, true, true, true, true, true, true, true, true, true, true, true, true, true, true, true, true, true, true, true, true, true, true, true, true, true, true, true, true, true, true, true, true, true, true, true, true, true, true, true, true, true, true, true, true, true, true, true, true, true, true, true, true, true, true, false, false, false] rfl rfl (one_of HT_.out (by kernel_rfl)) (by decide) (fun K hK => ?_)
  refine goes_ Try.func17 (by kernel_rfl) rfl #[.pointer (some ⟨gy, 0, none⟩)] (by rfl) rfl rfl (by (try simp only [List.map_toArray, List.map_cons, List.map_nil]); first | done | rfl) ?_
  with_reducible refine (scan_Scanner_Bad.calls gy _ _ _ _ _ w _ HY.out HB.out rfl).mono ?_
  rintro e wy117 ⟨rfl, hi, hb, hk⟩
  refine ⟨_, rfl, ?_⟩
  have n118_ : Aside0 (Below w.heap.size w wy117) := ⟨hb⟩
  have n119_ : Aside0 (IsS58 w wy117 g (⟨#[]⟩ : ByteArray) 0) := ⟨st_keep HX.out hk hny.symm⟩
  have n120_ : Aside0 (wy117.heap[g2]? = some (.cells #[.int .i64 1, .int .i64 1, .int .i64 0, .int .i64 7, .int .i64 0] 49 (0, 0))) := ⟨blk_keep HO.out (by decide) HY.out hk⟩
  have n121_ : Aside0 (Kd.R k49 49 wy117 w.heap.size (fun _ => True) (.slice raA (([] : List S49) : List S49).length raC) ([] : List S49)) := ⟨rw_keep RA.out HY.out hk⟩
  have n122_ : Aside0 (Kd.R k49 49 wy117 w.heap.size (fun _ => True) (.slice rcA ([(⟨3, 0, 0, 0, 2⟩ : S49), (⟨1, 1, 0, 7, 0⟩ : S49)] : List S49).length rcC) [(⟨3, 0, 0, 0, 2⟩ : S49), (⟨1, 1, 0, 7, 0⟩ : S49)]) := ⟨rw_keep RC.out HY.out hk⟩
  have n123_ : Aside0 (Kd.R k49 49 wy117 w.heap.size (fun _ => True) (.slice rdA ([(⟨3, 0, 0, 0, 1⟩ : S49)] : List S49).length rdC) [(⟨3, 0, 0, 0, 1⟩ : S49)]) := ⟨rw_keep RD.out HY.out hk⟩
  have n124_ : Aside0 (IsS58 w wy117 gy (s.extract 0 4) 3) := ⟨hi⟩
  have n125_ : Aside0 (Kd.R k49 49 wy117 w.heap.size (fun _ => True) (.slice reA ([(⟨3, 0, 0, 0, 2⟩ : S49), (⟨1, 1, 0, 7, 0⟩ : S49)] : List S49).length reC) [(⟨3, 0, 0, 0, 2⟩ : S49), (⟨1, 1, 0, 7, 0⟩ : S49)]) := ⟨rw_keep RE.out HY.out hk⟩
  have n126_ : Aside0 (Kd.R k49 49 wy117 w.heap.size (fun _ => True) (.slice rfA ([(⟨3, 0, 0, 0, 1⟩ : S49)] : List S49).length rfC) [(⟨3, 0, 0, 0, 1⟩ : S49)]) := ⟨rw_keep RF.out HY.out hk⟩
  clear HB HX HO RA RC RD HY RE RF
  have HB := n118_
  have HX := n119_
  have HO := n120_
  have RA := n121_
  have RC := n122_
  have RD := n123_
  have HY := n124_
  have RE := n125_
  have RF := n126_
  clear n118_ n119_ n120_ n121_ n122_ n123_ n124_ n125_ n126_
  clear hi hb hk
  refine hK.out _ _ (⟨blk_cell (show wy117.heap[g2]? = _ from HO.out) 0, blk_cell (show wy117.heap[g2]? = _ from HO.out) 1, blk_cell (show wy117.heap[g2]? = _ from HO.out) 2, blk_cell (show wy117.heap[g2]? = _ from HO.out) 3, blk_cell (show wy117.heap[g2]? = _ from HO.out) 4⟩) (fun hHeld => ?_)
  clear hK K
  refine norm_ (a' := ?_) ?_ ?_
  rotate_left
  · show Act.put _ (some 123) _ = _
    simp only [Act.put, List.setIfInBounds_toArray, List.set_cons_zero, List.set_cons_succ, i64_w, i32_w]
    rfl
  refine pure_ (i := 65) (N := some 124) (v := ?_) (a' := ?_) #[true, true, true, true, true, true, true, true, true, true, true, true, true, true, true, true, true, true, true, true, true, true, true, true, true, true, true, true, true, true, true, true, true, true, true, true, true, true, true, true, true, true, true, true, true, true, true, true, true, true, true, true, true, true, true, true, true, true, true, true, true, true, true, true, true, true, false, false] rfl rfl (any_of HT_.out (by kernel_rfl)) (fun _ _ _ h => h) (Or.inl ⟨by rfl, ?_⟩) ?_ ?_
  rotate_left
  · intro w'
    go_simp
    with_reducible rfl
  rotate_left
  · simp only [Act.put, List.setIfInBounds_toArray, List.set_cons_zero, List.set_cons_succ, i64_w, i32_w]
    rfl
  refine pure_ (i := 66) (N := some 125) (v := ?_) (a' := ?_) #[true, true, true, true, true, true, true, true, true, true, true, true, true, true, true, true, true, true, true, true, true, true, true, true, true, true, true, true, true, true, true, true, true, true, true, true, true, true, true, true, true, true, true, true, true, true, true, true, true, true, true, true, true, true, true, true, true, true, true, true, true, true, true, true, true, true, true, false] rfl rfl (any_of HT_.out (by kernel_rfl)) (fun _ _ _ h => h) (Or.inl ⟨by rfl, ?_⟩) ?_ ?_
  rotate_left
  · intro w'
    go_simp
    with_reducible rfl
  rotate_left
  · simp only [Act.put, List.setIfInBounds_toArray, List.set_cons_zero, List.set_cons_succ, i64_w, i32_w]
    rfl
  refine pure_ (i := 67) (N := some 0) (v := ?_) (a' := ?_) #[true, true, true, true, true, true, true, true, true, true, true, true, true, true, true, true, true, true, true, true, true, true, true, true, true, true, true, true, true, true, true, true, true, true, true, true, true, true, true, true, true, true, true, true, true, true, true, true, true, true, true, true, true, true, true, true, true, true, true, true, true, true, true, true, true, true, true, true] rfl rfl (any_of HT_.out (by kernel_rfl)) (fun _ _ _ h => h) (Or.inl ⟨by rfl, ?_⟩) ?_ ?_
  rotate_left
  · intro w'
    go_simp
    with_reducible rfl
  rotate_left
  · simp only [Act.put, List.setIfInBounds_toArray, List.set_cons_zero, List.set_cons_succ, i64_w, i32_w]
    rfl
  refine done_ (done_of HT_.out (by kernel_rfl)) ?_
  try go_wp2
  go_ret
  exact ⟨by first | rfl | (simp; done), HB.out⟩
/-- Every scanner program that is one is awake. -/
theorem awake_all (w : World) : Calls Try.prog 21 #[] w fun e w' => e = .returned (.bool true) ∧ Below w.heap.size w w' := by
  obtain ⟨k1, h1⟩ := a1_ev; obtain ⟨k2, h2⟩ := a2_ev; obtain ⟨k3, h3⟩ := a3_ev; obtain ⟨k4, h4⟩ := a4_ev; obtain ⟨k5, h5⟩ := a5_ev
  obtain ⟨k6, h6⟩ := a6_ev; obtain ⟨k7, h7⟩ := a7_ev; obtain ⟨k8, h8⟩ := a8_ev
  obtain ⟨k9, h9⟩ := same_ev [(⟨3, 0, 0, 0, 2⟩ : S49), (⟨1, 1, 0, 7, 0⟩ : S49)] (by decide); obtain ⟨k10, h10⟩ := same_ev [(⟨3, 0, 0, 0, 1⟩ : S49)] (by decide)
  have le : ∀ k, k ≤ k1 + k2 + k3 + k4 + k5 + k6 + k7 + k8 + k9 + k10 → k ≤ k1 + k2 + k3 + k4 + k5 + k6 + k7 + k8 + k9 + k10 := fun _ h => h
  generalize hK : k1 + k2 + k3 + k4 + k5 + k6 + k7 + k8 + k9 + k10 = K at le
  exact awake_calls K sA (S (enc5 oA)) _ _ w ⟨szA⟩ ⟨h1 K (by omega)⟩ ⟨h2 K (by omega)⟩ ⟨h3 K (by omega)⟩ ⟨h4 K (by omega)⟩ ⟨h5 K (by omega)⟩ ⟨h6 K (by omega)⟩ ⟨h7 K (by omega)⟩ ⟨h8 K (by omega)⟩ ⟨h9 K (by omega)⟩ ⟨h10 K (by omega)⟩

end Go.Proofs.Ytmccgkbbgicglaa.ScanAwakeR
