/- The walk of the law ScanFalse, from what its callees answer. No condition beyond those. -/
import Derived.Test.YtmccgkbbgicglaaScanAwake
import Derived.Test.YtmccgkbbgicglaaQScanAllx9
import Derived.Test.YtmccgkbbgicglaaQScanAllx10a
namespace Go.Proofs.Ytmccgkbbgicglaa.ScanFalseW
open Go.RowKit Go.Proofs.Ytmccgkbbgicglaa.QScanAll Go.Proofs.Ytmccgkbbgicglaa.ScanPure Go.Proofs.Ytmccgkbbgicglaa.ScanAwakePure Go.Proofs.Ytmccgkbbgicglaa.ScanLoadW Go.Proofs.YtmccgkbbgicglaaW.PrintWords Go.Proofs.YtmccgkbbgicglaaW.PrintLast Go.Proofs.YtmccgkbbgicglaaW.PrintMore
set_option linter.unusedVariables false
set_option linter.unusedSimpArgs false


def bodyL (i : Nat) : ByteArray := S (99 :: List.replicate i 0)
theorem bodyL_lt (i : Nat) : ∀ y ∈ 99 :: List.replicate i 0, y < 256 := by
  intro y hy
  rcases List.mem_cons.1 hy with rfl | hy
  · decide
  · rw [(List.mem_replicate.1 hy).2]; decide
theorem bodyL_size (i : Nat) : (bodyL i).size = i + 1 := by
  unfold bodyL; rw [S_size (bodyL_lt i)]; simp
theorem bodyL_succ (i : Nat) : bodyL i ++ (⟨#[0]⟩ : ByteArray) = bodyL (i + 1) := by
  apply L_inj
  unfold bodyL
  rw [L_append, L_S (bodyL_lt i), L_S (bodyL_lt (i + 1)), show L (⟨#[0]⟩ : ByteArray) = [0] by decide +kernel, List.replicate_succ']; rfl
def T7_21 : Bool × List (List Nat × List Nat) := (true, [([], []), ([], []), ([0, 1], [0, 1]), ([2, 2], [2]), ([3], [3]), ([3], [3]), ([4, 5, 3, 3], [3, 4, 5]), ([3], [3]), ([7, 3], [3, 7]), ([6, 8, 6, 3], [3, 6, 8]), ([3, 9], [3, 9]), ([10, 9, 0, 1, 2, 3, 4, 5, 6, 7, 8, 9, 10], [10])])
def B7_21 : List Nat := [0, 0, 3, 7, 15, 15, 63, 15, 143, 511, 1023, 2047]
theorem tab7_21 : rtab .any (opsOf Try.f7 21) = T7_21 := by kernel_rfl
theorem bits7_21 : waitsOk T7_21.2 B7_21 = true := by kernel_rfl
set_option maxHeartbeats 20000000 in
set_option maxRecDepth 100000 in
theorem false_calls (kk : Nat) (a0 a1 a2 a3 a4 ahead : Int) (m : Nat) (s t w1s w2s : ByteArray) (b1 b2 : Int) (r1 r2 want : List S49) (w : World)
    (AW : Aside0 (∀ w : World, Calls Try.prog 21 #[] w fun e w' => e = .returned (.bool true) ∧ Below w.heap.size w w'))
    (F1 : Aside0 (bournelaw11_framed.f kk a0 a1 a2 a3 a4 = some s))
    (hk : Go.bits .and .i64 ahead 7 = (m : Int)) (HM : Aside0 (m ≤ 7)) (HWQ : Aside0 (r1 ++ r2 = want)) (HWL : Aside0 (want = ([⟨3, 0, 0, 0, 3 + (m : Int)⟩, ⟨a0, a1, a2, a3, a4⟩, ⟨3, 0, 0, 0, 2⟩] : List S49)))
    (HC : ((s.toList == ([] : List UInt8)) = true ∧ s.toList.isEmpty = true ∧ (s.toList = ([] : List UInt8)) = True) ∨
      (((s.toList == ([] : List UInt8)) = false ∧ s.toList.isEmpty = false ∧ (s.toList = ([] : List UInt8)) = False) ∧ decide ((40 : Int) < (s.size : Int)) = true ∧ (40 < s.size) = True) ∨
      (((s.toList == ([] : List UInt8)) = false ∧ s.toList.isEmpty = false ∧ (s.toList = ([] : List UInt8)) = False) ∧ (decide ((40 : Int) < (s.size : Int)) = false ∧ (40 < s.size) = False) ∧
        Aside0 (s.size ≤ 40 ∧ (r1.length + r2.length) * 40 ≤ 140737488355328 ∧ Aside0 (bourneref1_PutFrame.f kk (bodyL m ++ s) = some (t, 0)) ∧
          Aside0 (scan_Scanner_Write.f kk (⟨#[]⟩ : ByteArray) 0 t = some (r1, w1s, b1)) ∧ Aside0 (scan_Scanner_Close.f kk w1s b1 = some (r2, w2s, b2)) ∧ Aside0 (bournelaw0_SameOps.f kk want want = some true) ∧
          Aside0 (scan_Scanner_Write.f kk (⟨#[]⟩ : ByteArray) 0 s = some (([⟨a0, a1, a2, a3, a4⟩] : List S49), (⟨#[]⟩ : ByteArray), 0)) ∧ Aside0 (bournelaw0_SameOps.f kk [⟨a0, a1, a2, a3, a4⟩] [⟨a0, a1, a2, a3, a4⟩] = some true)))) :
    Calls Try.prog 7 #[.agg #[.int .i64 a0, .int .i64 a1, .int .i64 a2, .int .i64 a3, .int .i64 a4], .int .i64 ahead] w fun e w' => e = .returned (.bool true) ∧ Below w.heap.size w w' := by
  have HB := Aside0.mk (Below.refl w.heap.size w)
  go_enter Try.func7, Try.ntmps7
  go_upto_region 1 with (fail)
  have hbd := below_alloc (Below.refl w.heap.size w) (.cells #[.int .i64 a0, .int .i64 a1, .int .i64 a2, .int .i64 a3, .int .i64 a4] 49 (0, 0))
  have hnew := blk_new w (.cells #[.int .i64 a0, .int .i64 a1, .int .i64 a2, .int .i64 a3, .int .i64 a4] 49 (0, 0))
  generalize hg2 : w.heap.size = g2 at hnew ⊢
  generalize w.alloc (.cells #[.int .i64 a0, .int .i64 a1, .int .i64 a2, .int .i64 a3, .int .i64 a4] 49 (0, 0)) = w1 at hbd hnew ⊢
  have n1_ : Aside0 (Below w.heap.size w w1) := ⟨below_step HB.out hbd⟩
  have n2_ : Aside0 (w1.heap[g2]? = some (.cells #[.int .i64 a0, .int .i64 a1, .int .i64 a2, .int .i64 a3, .int .i64 a4] 49 (0, 0))) := ⟨hnew⟩
  clear HB
  have HB := n1_
  have HO := n2_
  clear n1_ n2_
  clear hbd hnew hg2
  go_wp2_with fail
  refine (AW.out _).mono ?_
  rintro e w2 ⟨rfl, hb⟩
  have n3_ : Aside0 (Below w.heap.size w w2) := ⟨below_step HB.out hb⟩
  have n4_ : Aside0 (w2.heap[g2]? = some (.cells #[.int .i64 a0, .int .i64 a1, .int .i64 a2, .int .i64 a3, .int .i64 a4] 49 (0, 0))) := ⟨blk_below HO.out hb⟩
  clear HB HO
  have HB := n3_
  have HO := n4_
  clear n3_ n4_
  clear hb
  clear AW
  go_wp2_with fail
  refine (scan_New.calls _ _ w _ HB.out rfl).mono ?_
  rintro e w3 ⟨g, rfl, hi, _, hb⟩
  have n5_ : Aside0 (Below w.heap.size w w3) := ⟨below_step HB.out hb⟩
  have n6_ : Aside0 (w3.heap[g2]? = some (.cells #[.int .i64 a0, .int .i64 a1, .int .i64 a2, .int .i64 a3, .int .i64 a4] 49 (0, 0))) := ⟨blk_below HO.out hb⟩
  have n7_ : Aside0 (IsS58 w w3 g (⟨#[]⟩ : ByteArray) 0) := ⟨hi⟩
  clear HB HO
  have HB := n5_
  have HO := n6_
  have HX := n7_
  clear n5_ n6_ n7_
  clear hi hb
  go_wp2_with fail
  refine (scan_New.calls _ _ w3 _ (Below.refl _ _) rfl).mono ?_
  rintro e w4 ⟨gy, rfl, hi, _, hb⟩
  obtain ⟨hi, hny⟩ := new_st HB.out HX.out hi
  have n8_ : Aside0 (Below w.heap.size w w4) := ⟨below_step HB.out hb⟩
  have n9_ : Aside0 (w4.heap[g2]? = some (.cells #[.int .i64 a0, .int .i64 a1, .int .i64 a2, .int .i64 a3, .int .i64 a4] 49 (0, 0))) := ⟨blk_below HO.out hb⟩
  have n10_ : Aside0 (IsS58 w w4 g (⟨#[]⟩ : ByteArray) 0) := ⟨IsS58.below HX.out hb⟩
  have n11_ : Aside0 (IsS58 w w4 gy (⟨#[]⟩ : ByteArray) 0) := ⟨hi⟩
  clear HB HO HX
  have HB := n8_
  have HO := n9_
  have HX := n10_
  have HY := n11_
  clear n8_ n9_ n10_ n11_
  clear hi hb
  have x12 : w4.cell? ⟨g2, 0, none⟩ = some (.int .i64 a0) := blk_cell HO.out 0
  have x13 : w4.cell? ⟨g2, 1, none⟩ = some (.int .i64 a1) := blk_cell HO.out 1
  have x14 : w4.cell? ⟨g2, 2, none⟩ = some (.int .i64 a2) := blk_cell HO.out 2
  have x15 : w4.cell? ⟨g2, 3, none⟩ = some (.int .i64 a3) := blk_cell HO.out 3
  have x16 : w4.cell? ⟨g2, 4, none⟩ = some (.int .i64 a4) := blk_cell HO.out 4
  go_wp2_with fail
  refine (bournelaw11_framed.calls kk a0 a1 a2 a3 a4 s _ F1.out).mono ?_
  rintro e w5 ⟨rfl, hb⟩
  clear x12 x13 x14 x15 x16
  have n17_ : Aside0 (Below w.heap.size w w5) := ⟨below_step HB.out hb⟩
  have n18_ : Aside0 (w5.heap[g2]? = some (.cells #[.int .i64 a0, .int .i64 a1, .int .i64 a2, .int .i64 a3, .int .i64 a4] 49 (0, 0))) := ⟨blk_below HO.out hb⟩
  have n19_ : Aside0 (IsS58 w w5 g (⟨#[]⟩ : ByteArray) 0) := ⟨IsS58.below HX.out hb⟩
  have n20_ : Aside0 (IsS58 w w5 gy (⟨#[]⟩ : ByteArray) 0) := ⟨IsS58.below HY.out hb⟩
  clear HB HO HX HY
  have HB := n17_
  have HO := n18_
  have HX := n19_
  have HY := n20_
  clear n17_ n18_ n19_ n20_
  clear hb
  clear F1
  rcases HC with ⟨c1, c2, c3⟩ | ⟨⟨c1, c2, c3⟩, c4, c5⟩ | ⟨⟨c1, c2, c3⟩, ⟨c4, c5⟩, HR⟩
  · go_wp2_with fail
    go_ret
    exact ⟨rfl, HB.out⟩
  · go_wp2_with fail
    go_ret
    exact ⟨rfl, HB.out⟩
  obtain ⟨hs_, ht_, F2, F3, F4, F5, F6, F7⟩ := HR.out
  have HS := Aside0.mk hs_
  have HT := Aside0.mk ht_
  clear hs_ ht_
  clear HR
  go_wp2_with fail
  go_loopg [9, 10] m (fun kq v9 v10 w' => ∃ (i : Nat) (b : ByteArray), v9 = .string b ∧ v10 = .int .i64 (i : Int) ∧ Aside0 (i + kq = m) ∧ Aside0 (b = bodyL i) ∧ Aside0 (w' = w5))
  case atStart => exact ⟨0, _, rfl, rfl, ⟨by omega⟩, ⟨rfl⟩, ⟨rfl⟩⟩
  obtain ⟨i, b, rfl, rfl, HI, HBd, HWW⟩ := hrel
  have hww := HWW.out
  subst hww
  clear HWW
  have hbs := bodyL_size i
  rw [← HBd.out] at hbs
  have hmm := HM.out
  cases gk with
  | zero =>
    have e := HI.out
    obtain rfl : i = m := by omega
    have hz : decide ((i : Int) < (i : Int)) = false := decide_eq_false (by omega)
    have hz2 : ¬ ((i : Int) < (i : Int)) := by omega
    clear e HI
    have z1 : b.size + s.size ≤ 9223372036854775807 := by have := HS.out; omega
    have z2 := eq_false (Nat.not_lt.2 z1)
    have hbb := HBd.out
    subst hbb
    clear HBd
    have hw3 : wrap64 (3 + (i : Int)) = 3 + (i : Int) := wrap64_id (by omega) (by omega)
    go_wp2_with fail
    refine (bourneref1_PutFrame.calls kk (bodyL i ++ s) t 0 _ F2.out).mono ?_
    rintro e w6 ⟨rfl, hb⟩
    have n21_ : Aside0 (Below w.heap.size w w6) := ⟨below_step HB.out hb⟩
    have n22_ : Aside0 (w6.heap[g2]? = some (.cells #[.int .i64 a0, .int .i64 a1, .int .i64 a2, .int .i64 a3, .int .i64 a4] 49 (0, 0))) := ⟨blk_below HO.out hb⟩
    have n23_ : Aside0 (IsS58 w w6 g (⟨#[]⟩ : ByteArray) 0) := ⟨IsS58.below HX.out hb⟩
    have n24_ : Aside0 (IsS58 w w6 gy (⟨#[]⟩ : ByteArray) 0) := ⟨IsS58.below HY.out hb⟩
    clear HB HO HX HY
    have HB := n21_
    have HO := n22_
    have HX := n23_
    have HY := n24_
    clear n21_ n22_ n23_ n24_
    clear hb F2
    have HBb := below_size HB.out
    go_wp2_with fail
    have HOb := HO
    refine (scan_Scanner_Write.calls kk g _ 0 t _ _ _ w _ HX.out HB.out F3.out).mono ?_
    rintro e w7 ⟨va_, rfl, ho, hi, hb, hk⟩
    have n25_ : Aside0 (Below w.heap.size w w7) := ⟨hb⟩
    have n26_ : Aside0 (w7.heap[g2]? = some (.cells #[.int .i64 a0, .int .i64 a1, .int .i64 a2, .int .i64 a3, .int .i64 a4] 49 (0, 0))) := ⟨blk_keep HO.out (by decide) HX.out hk⟩
    have n27_ : Aside0 (IsS58 w w7 g w1s b1) := ⟨hi⟩
    have n28_ : Aside0 (IsS58 w w7 gy (⟨#[]⟩ : ByteArray) 0) := ⟨st_keep HY.out hk hny⟩
    have n29_ : Aside0 (Kd.R k49 49 w7 w.heap.size (fun k_ => k_ ≠ g2) va_ r1) := ⟨Kd.R_lower (Kd.R_mono (Kd.R_newB ho HOb.out) (fun _ h => h.2)) HBb⟩
    clear HB HO HX HY
    have HB := n25_
    have HO := n26_
    have HX := n27_
    have HY := n28_
    have R1 := n29_
    clear n25_ n26_ n27_ n28_ n29_
    clear hi hb hk ho HOb
    obtain ⟨r1A, r1C, rfl⟩ := Kd.R_slice R1.out
    have HBb := below_size HB.out
    go_wp2_with fail
    have HOb := HO
    refine (scan_Scanner_Close.calls kk g _ _ _ _ _ w _ HX.out HB.out F4.out).mono ?_
    rintro e w8 ⟨va_, rfl, ho, hi, hb, hk⟩
    have n30_ : Aside0 (Below w.heap.size w w8) := ⟨hb⟩
    have n31_ : Aside0 (w8.heap[g2]? = some (.cells #[.int .i64 a0, .int .i64 a1, .int .i64 a2, .int .i64 a3, .int .i64 a4] 49 (0, 0))) := ⟨blk_keep HO.out (by decide) HX.out hk⟩
    have n32_ : Aside0 (IsS58 w w8 g w2s b2) := ⟨hi⟩
    have n33_ : Aside0 (IsS58 w w8 gy (⟨#[]⟩ : ByteArray) 0) := ⟨st_keep HY.out hk hny⟩
    have n34_ : Aside0 (Kd.R k49 49 w8 w.heap.size (fun k_ => k_ ≠ g2) (.slice r1A r1.length r1C) r1) := ⟨rw_keep R1.out HX.out hk⟩
    have n35_ : Aside0 (Kd.R k49 49 w8 w.heap.size (fun k_ => k_ ≠ g2) va_ r2) := ⟨Kd.R_lower (Kd.R_mono (Kd.R_newB ho HOb.out) (fun _ h => h.2)) HBb⟩
    clear HB HO HX HY R1
    have HB := n30_
    have HO := n31_
    have HX := n32_
    have HY := n33_
    have R1 := n34_
    have R2 := n35_
    clear n30_ n31_ n32_ n33_ n34_ n35_
    clear hi hb hk ho HOb
    obtain ⟨r2A, r2C, rfl⟩ := Kd.R_slice R2.out
    clear F3 F4
    go_upto_region 20 with (first | ((with_reducible refine gate_builtin (b := .append) (xs := #[.tmp 55, .tmp 57]) rfl ?_); at_builtin; refine Kd.R_append_rows k49 (w0 := w) w.heap.size rfl (.tmp 55) (.tmp 57) 34 49 (.agg #[(.int .i64 0), (.int .i64 0), (.int .i64 0), (.int .i64 0), (.int .i64 0)]) 40 rfl Try.underlying34 info49 rfl (by decide) (by omega) (.slice r1A r1.length r1C) r1 r2 _ _ _ (fun k_ => k_ ≠ g2) (fun _ => False) rfl rfl R1.out (Kd.R_reads' R2.out).2.2 (fun _ _ h => h) (fun _ h => h.elim) (Kd.freshB HO.out) HB.out (below_size HB.out) (by have := HT.out; omega) ?_; intro v3_ w9 ho hb hg hat))
    have hne : some g2 ≠ (Value.slice r1A r1.length r1C).ownBlock := fun e => (R1.out.1 g2 e.symm) rfl
    clear R2
    have n36_ : Aside0 (Below w.heap.size w w9) := ⟨hb⟩
    have n37_ : Aside0 (w9.heap[g2]? = some (.cells #[.int .i64 a0, .int .i64 a1, .int .i64 a2, .int .i64 a3, .int .i64 a4] 49 (0, 0))) := ⟨blk_grown HO.out hg hne⟩
    have n38_ : Aside0 (IsS58 w w9 g w2s b2) := ⟨IsS58.grown HX.out hg (IsS58.own_ne HX.out R1.out (by decide))⟩
    have n39_ : Aside0 (IsS58 w w9 gy (⟨#[]⟩ : ByteArray) 0) := ⟨IsS58.grown HY.out hg (IsS58.own_ne HY.out R1.out (by decide))⟩
    have n40_ : Aside0 (Kd.R k49 49 w9 w.heap.size (fun k_ => k_ ≠ g2) v3_ (r1 ++ r2)) := ⟨ho⟩
    clear HB HO HX HY R1
    have HB := n36_
    have HO := n37_
    have HX := n38_
    have HY := n39_
    have R1 := n40_
    clear n36_ n37_ n38_ n39_ n40_
    clear ho hb hg hat hne
    have hww := HWQ.out
    rw [hww] at R1
    clear hww
    obtain ⟨r1A3, r1C3, rfl⟩ := Kd.R_slice R1.out
    have x41 : w9.cell? ⟨g2, 0, none⟩ = some (.int .i64 a0) := blk_cell HO.out 0
    have x42 : w9.cell? ⟨g2, 1, none⟩ = some (.int .i64 a1) := blk_cell HO.out 1
    have x43 : w9.cell? ⟨g2, 2, none⟩ = some (.int .i64 a2) := blk_cell HO.out 2
    have x44 : w9.cell? ⟨g2, 3, none⟩ = some (.int .i64 a3) := blk_cell HO.out 3
    have x45 : w9.cell? ⟨g2, 4, none⟩ = some (.int .i64 a4) := blk_cell HO.out 4
    skip
    go_upto_region 21 with (first | ((with_reducible refine gate_dst (N := 64) rfl ?_); refine Kd.R_lit k49 _ 49 ?hg (N := 64) ?hd (xs := ([(⟨3, 0, 0, 0, (3 + (i : Int))⟩ : S49), (⟨a0, a1, a2, a3, a4⟩ : S49), (⟨3, 0, 0, 0, 2⟩ : S49)] : List S49)) (inner := [.int .i64 3, .int .i64 0, .int .i64 0, .int .i64 0, .int .i64 (3 + (i : Int)), .int .i64 a0, .int .i64 a1, .int .i64 a2, .int .i64 a3, .int .i64 a4, .int .i64 3, .int .i64 0, .int .i64 0, .int .i64 0, .int .i64 2]) (ok := fun _ => True) (okp := fun _ => True) ?hr ?hp (fun _ hk => hk) trivial (Below.refl _ _) (Nat.le_refl _) (by simp) ?_; (case hd => rfl); (case hg => rfl); (case hr => first | (go_simp; done) | (go_simp; rfl)); (case hp => exact (Reps.c5 (show Kd.M k49 _ _ _ (⟨3, 0, 0, 0, (3 + (i : Int))⟩ : S49) [.int .i64 3, .int .i64 0, .int .i64 0, .int .i64 0, .int .i64 (3 + (i : Int))] from (k49_mkM _ _ _ (⟨3, 0, 0, 0, (3 + (i : Int))⟩ : S49))) (Reps.c5 (show Kd.M k49 _ _ _ (⟨a0, a1, a2, a3, a4⟩ : S49) [.int .i64 a0, .int .i64 a1, .int .i64 a2, .int .i64 a3, .int .i64 a4] from (k49_mkM _ _ _ (⟨a0, a1, a2, a3, a4⟩ : S49))) (Reps.c5 (show Kd.M k49 _ _ _ (⟨3, 0, 0, 0, 2⟩ : S49) [.int .i64 3, .int .i64 0, .int .i64 0, .int .i64 0, .int .i64 2] from (k49_mkM _ _ _ (⟨3, 0, 0, 0, 2⟩ : S49))) (Reps.none _ _))))); intro v_ w10 ho hb hg_ hnew_; clear hg_ hnew_))
    clear x41 x42 x43 x44 x45
    have HOb := HO
    have HBb := below_size HB.out
    have n46_ : Aside0 (Below w.heap.size w w10) := ⟨below_step HB.out hb⟩
    have n47_ : Aside0 (w10.heap[g2]? = some (.cells #[.int .i64 a0, .int .i64 a1, .int .i64 a2, .int .i64 a3, .int .i64 a4] 49 (0, 0))) := ⟨blk_below HO.out hb⟩
    have n48_ : Aside0 (IsS58 w w10 g w2s b2) := ⟨IsS58.below HX.out hb⟩
    have n49_ : Aside0 (IsS58 w w10 gy (⟨#[]⟩ : ByteArray) 0) := ⟨IsS58.below HY.out hb⟩
    have n50_ : Aside0 (Kd.R k49 49 w10 w.heap.size (fun k_ => k_ ≠ g2) (.slice r1A3 want.length r1C3) want) := ⟨Kd.R_below R1.out hb⟩
    have n51_ : Aside0 (Kd.R k49 49 w10 w.heap.size (fun k_ => k_ ≠ g2) v_ ([(⟨3, 0, 0, 0, (3 + (i : Int))⟩ : S49), (⟨a0, a1, a2, a3, a4⟩ : S49), (⟨3, 0, 0, 0, 2⟩ : S49)] : List S49)) := ⟨Kd.R_lower (Kd.R_mono (Kd.R_newB ho HOb.out) (fun _ h => h.2)) HBb⟩
    clear HB HO HX HY R1
    have HB := n46_
    have HO := n47_
    have HX := n48_
    have HY := n49_
    have R1 := n50_
    have R4 := n51_
    clear n46_ n47_ n48_ n49_ n50_ n51_
    clear ho hb HOb HBb
    have hwl := HWL.out
    rw [← hwl] at R4
    clear hwl
    obtain ⟨r4A, r4C, rfl⟩ := Kd.R_slice R4.out
    refine start_ (n := 12) (S := fun w' => w'.cell? ⟨g2, 0, none⟩ = some (.int .i64 a0) ∧ w'.cell? ⟨g2, 1, none⟩ = some (.int .i64 a1) ∧ w'.cell? ⟨g2, 2, none⟩ = some (.int .i64 a2) ∧ w'.cell? ⟨g2, 3, none⟩ = some (.int .i64 a3) ∧ w'.cell? ⟨g2, 4, none⟩ = some (.int .i64 a4)) (ds := []) #[false, false, false, false, false, false, false, false, false, false, false, false] (by kernel_rfl) rfl rfl (⟨blk_cell (show w10.drew.heap[g2]? = _ from HO.out) 0, blk_cell (show w10.drew.heap[g2]? = _ from HO.out) 1, blk_cell (show w10.drew.heap[g2]? = _ from HO.out) 2, blk_cell (show w10.drew.heap[g2]? = _ from HO.out) 3, blk_cell (show w10.drew.heap[g2]? = _ from HO.out) 4⟩) (fun hHeld => ?_)
    refine with_tabW tab7_21 bits7_21 (fun HT_ HW_ => ?_)
    have hbd := below_drew1 (Below.refl w10.heap.size w10)
    generalize w10.drew = wd52 at hbd hHeld ⊢
    have n53_ : Aside0 (Below w.heap.size w wd52) := ⟨below_step HB.out hbd⟩
    have n54_ : Aside0 (wd52.heap[g2]? = some (.cells #[.int .i64 a0, .int .i64 a1, .int .i64 a2, .int .i64 a3, .int .i64 a4] 49 (0, 0))) := ⟨blk_below HO.out hbd⟩
    have n55_ : Aside0 (IsS58 w wd52 g w2s b2) := ⟨IsS58.below HX.out hbd⟩
    have n56_ : Aside0 (IsS58 w wd52 gy (⟨#[]⟩ : ByteArray) 0) := ⟨IsS58.below HY.out hbd⟩
    have n57_ : Aside0 (Kd.R k49 49 wd52 w.heap.size (fun k_ => k_ ≠ g2) (.slice r1A3 want.length r1C3) want) := ⟨Kd.R_below R1.out hbd⟩
    have n58_ : Aside0 (Kd.R k49 49 wd52 w.heap.size (fun k_ => k_ ≠ g2) (.slice r4A want.length r4C) want) := ⟨Kd.R_below R4.out hbd⟩
    clear HB HO HX HY R1 R4
    have HB := n53_
    have HO := n54_
    have HX := n55_
    have HY := n56_
    have R1 := n57_
    have R4 := n58_
    clear n53_ n54_ n55_ n56_ n57_ n58_
    clear hbd
    refine pure_ (i := 0) (N := some 65) (v := ?_) (a' := ?_) #[true, false, false, false, false, false, false, false, false, false, false, false] rfl rfl (any_of HT_.out (by kernel_rfl)) (fun _ _ _ h => h) (Or.inl ⟨by rfl, ?_⟩) ?_ ?_
    rotate_left
    · intro w'
      go_simp
      with_reducible rfl
    rotate_left
    · simp only [Act.put, List.setIfInBounds_toArray, List.set_cons_zero, List.set_cons_succ, i64_w, i32_w]
      rfl
    refine pure_ (i := 1) (N := some 66) (v := ?_) (a' := ?_) #[true, true, false, false, false, false, false, false, false, false, false, false] rfl rfl (any_of HT_.out (by kernel_rfl)) (fun _ _ _ h => h) (Or.inl ⟨by rfl, ?_⟩) ?_ ?_
    rotate_left
    · intro w'
      go_simp
      with_reducible rfl
    rotate_left
    · simp only [Act.put, List.setIfInBounds_toArray, List.set_cons_zero, List.set_cons_succ, i64_w, i32_w]
      rfl
    refine one_ (i := 2) (N := some 67) #[true, true, true, false, false, false, false, false, false, false, false, false] rfl rfl (one_of HT_.out (by kernel_rfl)) (by decide) (fun K hK => ?_)
    obtain ⟨_, hc0, hC0⟩ := Kd.R_reads' R1.out
    obtain ⟨_, hc1, hC1⟩ := Kd.R_reads' R4.out
    refine goes_ Try.func15 (by kernel_rfl) rfl #[.slice r1A3 want.length r1C3, .slice r4A want.length r4C] (by rfl) rfl rfl (by (try simp only [List.map_toArray, List.map_cons, List.map_nil]); first | done | rfl) ?_
    with_reducible refine (same_calls kk _ _ want _ _ want true _ hC0 hc0 hC1 hc1 F5.out).mono ?_
    rintro e ws59 ⟨rfl, hb⟩
    refine ⟨_, rfl, ?_⟩
    clear hc0 hC0 hc1 hC1
    have n60_ : Aside0 (Below w.heap.size w ws59) := ⟨below_step HB.out hb⟩
    have n61_ : Aside0 (ws59.heap[g2]? = some (.cells #[.int .i64 a0, .int .i64 a1, .int .i64 a2, .int .i64 a3, .int .i64 a4] 49 (0, 0))) := ⟨blk_below HO.out hb⟩
    have n62_ : Aside0 (IsS58 w ws59 g w2s b2) := ⟨IsS58.below HX.out hb⟩
    have n63_ : Aside0 (IsS58 w ws59 gy (⟨#[]⟩ : ByteArray) 0) := ⟨IsS58.below HY.out hb⟩
    have n64_ : Aside0 (Kd.R k49 49 ws59 w.heap.size (fun k_ => k_ ≠ g2) (.slice r1A3 want.length r1C3) want) := ⟨Kd.R_below R1.out hb⟩
    have n65_ : Aside0 (Kd.R k49 49 ws59 w.heap.size (fun k_ => k_ ≠ g2) (.slice r4A want.length r4C) want) := ⟨Kd.R_below R4.out hb⟩
    clear HB HO HX HY R1 R4
    have HB := n60_
    have HO := n61_
    have HX := n62_
    have HY := n63_
    have R1 := n64_
    have R4 := n65_
    clear n60_ n61_ n62_ n63_ n64_ n65_
    clear hb
    refine hK.out _ _ (⟨blk_cell (show ws59.heap[g2]? = _ from HO.out) 0, blk_cell (show ws59.heap[g2]? = _ from HO.out) 1, blk_cell (show ws59.heap[g2]? = _ from HO.out) 2, blk_cell (show ws59.heap[g2]? = _ from HO.out) 3, blk_cell (show ws59.heap[g2]? = _ from HO.out) 4⟩) (fun hHeld => ?_)
    clear hK K
    refine norm_ (a' := ?_) ?_ ?_
    rotate_left
    · show Act.put _ (some 67) _ = _
      simp only [Act.put, List.setIfInBounds_toArray, List.set_cons_zero, List.set_cons_succ, i64_w, i32_w]
      rfl
    refine pure_ (i := 3) (N := some 68) (v := ?_) (a' := ?_) #[true, true, true, true, false, false, false, false, false, false, false, false] rfl rfl (any_of HT_.out (by kernel_rfl)) (fun _ _ _ h => h) (Or.inl ⟨by rfl, ?_⟩) ?_ ?_
    rotate_left
    · intro w'
      go_simp
      with_reducible rfl
    rotate_left
    · simp only [Act.put, List.setIfInBounds_toArray, List.set_cons_zero, List.set_cons_succ, i64_w, i32_w]
      rfl
    refine pure_ (i := 4) (N := some 69) (v := ?_) (a' := ?_) #[true, true, true, true, true, false, false, false, false, false, false, false] rfl rfl (any_of HT_.out (by kernel_rfl)) (fun _ _ _ h => h) (Or.inl ⟨by rfl, ?_⟩) ?_ ?_
    rotate_left
    · intro w'
      go_simp
      with_reducible rfl
    rotate_left
    · simp only [Act.put, List.setIfInBounds_toArray, List.set_cons_zero, List.set_cons_succ, i64_w, i32_w]
      rfl
    refine pure_ (i := 5) (N := some 70) (v := ?_) (a' := ?_) #[true, true, true, true, true, true, false, false, false, false, false, false] rfl rfl (any_of HT_.out (by kernel_rfl)) (fun _ _ _ h => h) (Or.inl ⟨by rfl, ?_⟩) ?_ ?_
    rotate_left
    · intro w'
      go_simp
      with_reducible rfl
    rotate_left
    · simp only [Act.put, List.setIfInBounds_toArray, List.set_cons_zero, List.set_cons_succ, i64_w, i32_w]
      rfl
    clear R1 R4
    refine take_ (i := 7) (N := some 72) (v := ?_) (a' := ?_) #[true, true, true, true, true, true, false, true, false, false, false, false] rfl rfl (take_ofW HT_.out HW_.out (by kernel_rfl)) (fun _ _ _ h => h) (Or.inl ⟨by rfl, ?_⟩) hHeld ?_ ?_
    rotate_left
    · rintro w' ⟨x0_, x1_, x2_, x3_, x4_⟩
      go_simp
      with_reducible rfl
    rotate_left
    · simp only [Act.put, List.setIfInBounds_toArray, List.set_cons_zero, List.set_cons_succ, i64_w, i32_w]
      rfl
    refine two_ (i := 6) (j := 8) (Ni := some 71) (Nj := some 73) #[true, true, true, true, true, true, true, true, false, false, false, false] #[true, true, true, true, true, true, false, true, true, false, false, false] rfl rfl rfl rfl (two_of HT_.out (by kernel_rfl)) (by decide) (by decide) (fun K hK => ?_) (fun K hK => ?_)
    · refine goes_ Try.func13 (by kernel_rfl) rfl #[.pointer (some ⟨gy, 0, none⟩), .string s] (by rfl) rfl rfl (by (try simp only [List.map_toArray, List.map_cons, List.map_nil]); first | done | rfl) ?_
      have HOb := HO
      have HBb := below_size HB.out
      with_reducible refine (scan_Scanner_Write.calls kk gy _ 0 s _ _ _ w _ HY.out HB.out F6.out).mono ?_
      rintro e wv66 ⟨va_, rfl, ho, hi, hb, hk⟩
      refine ⟨_, rfl, ?_⟩
      have n67_ : Aside0 (Below w.heap.size w wv66) := ⟨hb⟩
      have n68_ : Aside0 (wv66.heap[g2]? = some (.cells #[.int .i64 a0, .int .i64 a1, .int .i64 a2, .int .i64 a3, .int .i64 a4] 49 (0, 0))) := ⟨blk_keep HO.out (by decide) HY.out hk⟩
      have n69_ : Aside0 (IsS58 w wv66 g w2s b2) := ⟨st_keep HX.out hk hny.symm⟩
      have n70_ : Aside0 (IsS58 w wv66 gy (⟨#[]⟩ : ByteArray) 0) := ⟨hi⟩
      have n71_ : Aside0 (Kd.R k49 49 wv66 w.heap.size (fun k_ => k_ ≠ g2) va_ ([(⟨a0, a1, a2, a3, a4⟩ : S49)] : List S49)) := ⟨Kd.R_lower (Kd.R_mono (Kd.R_newB ho HOb.out) (fun _ h => h.2)) HBb⟩
      clear HB HO HX HY
      have HB := n67_
      have HO := n68_
      have HX := n69_
      have HY := n70_
      have R5 := n71_
      clear n67_ n68_ n69_ n70_ n71_
      clear hi hb hk ho HOb HBb
      obtain ⟨r5A, r5C, rfl⟩ := Kd.R_slice R5.out
      refine hK.out _ _ (⟨blk_cell (show wv66.heap[g2]? = _ from HO.out) 0, blk_cell (show wv66.heap[g2]? = _ from HO.out) 1, blk_cell (show wv66.heap[g2]? = _ from HO.out) 2, blk_cell (show wv66.heap[g2]? = _ from HO.out) 3, blk_cell (show wv66.heap[g2]? = _ from HO.out) 4⟩) (fun hHeld => ?_)
      clear hK K
      refine norm_ (a' := ?_) ?_ ?_
      rotate_left
      · show Act.put _ (some 71) _ = _
        simp only [Act.put, List.setIfInBounds_toArray, List.set_cons_zero, List.set_cons_succ, i64_w, i32_w]
        rfl
      refine one_ (i := 8) (N := some 73) #[true, true, true, true, true, true, true, true, true, false, false, false] rfl rfl (one_of HT_.out (by kernel_rfl)) (by decide) (fun K hK => ?_)
      refine Kd.R_lit_step k49 _ 49 (by rfl) (N := 73) rfl (xs := ([(⟨a0, a1, a2, a3, a4⟩ : S49)] : List S49)) (inner := [.int .i64 a0, .int .i64 a1, .int .i64 a2, .int .i64 a3, .int .i64 a4]) (ok := fun _ => True) (okp := fun _ => True) ?hr ?hp (fun _ hk => hk) trivial (Below.refl _ _) (Nat.le_refl _) (by simp) ?_
      case hr => first | (go_simp; done) | (go_simp; rfl)
      case hp => exact (Reps.c5 (show Kd.M k49 _ _ _ (⟨a0, a1, a2, a3, a4⟩ : S49) [.int .i64 a0, .int .i64 a1, .int .i64 a2, .int .i64 a3, .int .i64 a4] from (k49_mkM _ _ _ (⟨a0, a1, a2, a3, a4⟩ : S49))) (Reps.none _ _))
      intro v_ wl72 ho hb hg_ hnew_
      clear hg_ hnew_
      have HOb := HO
      have HBb := below_size HB.out
      have n73_ : Aside0 (Below w.heap.size w wl72) := ⟨below_step HB.out hb⟩
      have n74_ : Aside0 (wl72.heap[g2]? = some (.cells #[.int .i64 a0, .int .i64 a1, .int .i64 a2, .int .i64 a3, .int .i64 a4] 49 (0, 0))) := ⟨blk_below HO.out hb⟩
      have n75_ : Aside0 (IsS58 w wl72 g w2s b2) := ⟨IsS58.below HX.out hb⟩
      have n76_ : Aside0 (IsS58 w wl72 gy (⟨#[]⟩ : ByteArray) 0) := ⟨IsS58.below HY.out hb⟩
      have n77_ : Aside0 (Kd.R k49 49 wl72 w.heap.size (fun k_ => k_ ≠ g2) (.slice r5A ([(⟨a0, a1, a2, a3, a4⟩ : S49)] : List S49).length r5C) ([(⟨a0, a1, a2, a3, a4⟩ : S49)] : List S49)) := ⟨Kd.R_below R5.out hb⟩
      have n78_ : Aside0 (Kd.R k49 49 wl72 w.heap.size (fun k_ => k_ ≠ g2) v_ ([(⟨a0, a1, a2, a3, a4⟩ : S49)] : List S49)) := ⟨Kd.R_lower (Kd.R_mono (Kd.R_newB ho HOb.out) (fun _ h => h.2)) HBb⟩
      clear HB HO HX HY R5
      have HB := n73_
      have HO := n74_
      have HX := n75_
      have HY := n76_
      have R5 := n77_
      have R6 := n78_
      clear n73_ n74_ n75_ n76_ n77_ n78_
      clear ho hb HOb HBb
      obtain ⟨r6A, r6C, rfl⟩ := Kd.R_slice R6.out
      refine hK.out _ _ (⟨blk_cell (show wl72.heap[g2]? = _ from HO.out) 0, blk_cell (show wl72.heap[g2]? = _ from HO.out) 1, blk_cell (show wl72.heap[g2]? = _ from HO.out) 2, blk_cell (show wl72.heap[g2]? = _ from HO.out) 3, blk_cell (show wl72.heap[g2]? = _ from HO.out) 4⟩) (fun hHeld => ?_)
      clear hK K
      refine norm_ (a' := ?_) ?_ ?_
      rotate_left
      · show Act.put _ (some 73) _ = _
        simp only [Act.put, List.setIfInBounds_toArray, List.set_cons_zero, List.set_cons_succ, i64_w, i32_w]
        rfl
      refine one_ (i := 9) (N := some 74) #[true, true, true, true, true, true, true, true, true, true, false, false] rfl rfl (one_of HT_.out (by kernel_rfl)) (by decide) (fun K hK => ?_)
      obtain ⟨_, hc0, hC0⟩ := Kd.R_reads' R5.out
      obtain ⟨_, hc1, hC1⟩ := Kd.R_reads' R6.out
      refine goes_ Try.func15 (by kernel_rfl) rfl #[.slice r5A ([(⟨a0, a1, a2, a3, a4⟩ : S49)] : List S49).length r5C, .slice r6A ([(⟨a0, a1, a2, a3, a4⟩ : S49)] : List S49).length r6C] (by rfl) rfl rfl (by (try simp only [List.map_toArray, List.map_cons, List.map_nil]); first | done | rfl) ?_
      with_reducible refine (same_calls kk _ _ ([(⟨a0, a1, a2, a3, a4⟩ : S49)] : List S49) _ _ ([(⟨a0, a1, a2, a3, a4⟩ : S49)] : List S49) true _ hC0 hc0 hC1 hc1 F7.out).mono ?_
      rintro e ws79 ⟨rfl, hb⟩
      refine ⟨_, rfl, ?_⟩
      clear hc0 hC0 hc1 hC1
      have n80_ : Aside0 (Below w.heap.size w ws79) := ⟨below_step HB.out hb⟩
      have n81_ : Aside0 (ws79.heap[g2]? = some (.cells #[.int .i64 a0, .int .i64 a1, .int .i64 a2, .int .i64 a3, .int .i64 a4] 49 (0, 0))) := ⟨blk_below HO.out hb⟩
      have n82_ : Aside0 (IsS58 w ws79 g w2s b2) := ⟨IsS58.below HX.out hb⟩
      have n83_ : Aside0 (IsS58 w ws79 gy (⟨#[]⟩ : ByteArray) 0) := ⟨IsS58.below HY.out hb⟩
      have n84_ : Aside0 (Kd.R k49 49 ws79 w.heap.size (fun k_ => k_ ≠ g2) (.slice r5A ([(⟨a0, a1, a2, a3, a4⟩ : S49)] : List S49).length r5C) ([(⟨a0, a1, a2, a3, a4⟩ : S49)] : List S49)) := ⟨Kd.R_below R5.out hb⟩
      have n85_ : Aside0 (Kd.R k49 49 ws79 w.heap.size (fun k_ => k_ ≠ g2) (.slice r6A ([(⟨a0, a1, a2, a3, a4⟩ : S49)] : List S49).length r6C) ([(⟨a0, a1, a2, a3, a4⟩ : S49)] : List S49)) := ⟨Kd.R_below R6.out hb⟩
      clear HB HO HX HY R5 R6
      have HB := n80_
      have HO := n81_
      have HX := n82_
      have HY := n83_
      have R5 := n84_
      have R6 := n85_
      clear n80_ n81_ n82_ n83_ n84_ n85_
      clear hb
      refine hK.out _ _ (⟨blk_cell (show ws79.heap[g2]? = _ from HO.out) 0, blk_cell (show ws79.heap[g2]? = _ from HO.out) 1, blk_cell (show ws79.heap[g2]? = _ from HO.out) 2, blk_cell (show ws79.heap[g2]? = _ from HO.out) 3, blk_cell (show ws79.heap[g2]? = _ from HO.out) 4⟩) (fun hHeld => ?_)
      clear hK K
      refine norm_ (a' := ?_) ?_ ?_
      rotate_left
      · show Act.put _ (some 74) _ = _
        simp only [Act.put, List.setIfInBounds_toArray, List.set_cons_zero, List.set_cons_succ, i64_w, i32_w]
        rfl
      refine pure_ (i := 10) (N := some 75) (v := ?_) (a' := ?_) #[true, true, true, true, true, true, true, true, true, true, true, false] rfl rfl (any_of HT_.out (by kernel_rfl)) (fun _ _ _ h => h) (Or.inl ⟨by rfl, ?_⟩) ?_ ?_
      rotate_left
      · intro w'
        go_simp
        with_reducible rfl
      rotate_left
      · simp only [Act.put, List.setIfInBounds_toArray, List.set_cons_zero, List.set_cons_succ, i64_w, i32_w]
        rfl
      refine pure_ (i := 11) (N := some 4) (v := ?_) (a' := ?_) #[true, true, true, true, true, true, true, true, true, true, true, true] rfl rfl (any_of HT_.out (by kernel_rfl)) (fun _ _ _ h => h) (Or.inl ⟨by rfl, ?_⟩) ?_ ?_
      rotate_left
      · intro w'
        go_simp
        with_reducible rfl
      rotate_left
      · simp only [Act.put, List.setIfInBounds_toArray, List.set_cons_zero, List.set_cons_succ, i64_w, i32_w]
        rfl
      refine done_ (done_of HT_.out (by kernel_rfl)) ?_
      try go_wp2
      go_ret
      exact ⟨by first | rfl | (simp; done), HB.out⟩
    · refine Kd.R_lit_step k49 _ 49 (by rfl) (N := 73) rfl (xs := ([(⟨a0, a1, a2, a3, a4⟩ : S49)] : List S49)) (inner := [.int .i64 a0, .int .i64 a1, .int .i64 a2, .int .i64 a3, .int .i64 a4]) (ok := fun _ => True) (okp := fun _ => True) ?hr ?hp (fun _ hk => hk) trivial (Below.refl _ _) (Nat.le_refl _) (by simp) ?_
      case hr => first | (go_simp; done) | (go_simp; rfl)
      case hp => exact (Reps.c5 (show Kd.M k49 _ _ _ (⟨a0, a1, a2, a3, a4⟩ : S49) [.int .i64 a0, .int .i64 a1, .int .i64 a2, .int .i64 a3, .int .i64 a4] from (k49_mkM _ _ _ (⟨a0, a1, a2, a3, a4⟩ : S49))) (Reps.none _ _))
      intro v_ wl86 ho hb hg_ hnew_
      clear hg_ hnew_
      have HOb := HO
      have HBb := below_size HB.out
      have n87_ : Aside0 (Below w.heap.size w wl86) := ⟨below_step HB.out hb⟩
      have n88_ : Aside0 (wl86.heap[g2]? = some (.cells #[.int .i64 a0, .int .i64 a1, .int .i64 a2, .int .i64 a3, .int .i64 a4] 49 (0, 0))) := ⟨blk_below HO.out hb⟩
      have n89_ : Aside0 (IsS58 w wl86 g w2s b2) := ⟨IsS58.below HX.out hb⟩
      have n90_ : Aside0 (IsS58 w wl86 gy (⟨#[]⟩ : ByteArray) 0) := ⟨IsS58.below HY.out hb⟩
      have n91_ : Aside0 (Kd.R k49 49 wl86 w.heap.size (fun k_ => k_ ≠ g2) v_ ([(⟨a0, a1, a2, a3, a4⟩ : S49)] : List S49)) := ⟨Kd.R_lower (Kd.R_mono (Kd.R_newB ho HOb.out) (fun _ h => h.2)) HBb⟩
      clear HB HO HX HY
      have HB := n87_
      have HO := n88_
      have HX := n89_
      have HY := n90_
      have R6 := n91_
      clear n87_ n88_ n89_ n90_ n91_
      clear ho hb HOb HBb
      obtain ⟨r6A, r6C, rfl⟩ := Kd.R_slice R6.out
      refine hK.out _ _ (⟨blk_cell (show wl86.heap[g2]? = _ from HO.out) 0, blk_cell (show wl86.heap[g2]? = _ from HO.out) 1, blk_cell (show wl86.heap[g2]? = _ from HO.out) 2, blk_cell (show wl86.heap[g2]? = _ from HO.out) 3, blk_cell (show wl86.heap[g2]? = _ from HO.out) 4⟩) (fun hHeld => ?_)
      clear hK K
      refine norm_ (a' := ?_) ?_ ?_
      rotate_left
      · show Act.put _ (some 73) _ = _
        simp only [Act.put, List.setIfInBounds_toArray, List.set_cons_zero, List.set_cons_succ, i64_w, i32_w]
        rfl
      refine one_ (i := 6) (N := some 71) #[true, true, true, true, true, true, true, true, true, false, false, false] rfl rfl (one_of HT_.out (by kernel_rfl)) (by decide) (fun K hK => ?_)
      refine goes_ Try.func13 (by kernel_rfl) rfl #[.pointer (some ⟨gy, 0, none⟩), .string s] (by rfl) rfl rfl (by (try simp only [List.map_toArray, List.map_cons, List.map_nil]); first | done | rfl) ?_
      have HOb := HO
      have HBb := below_size HB.out
      with_reducible refine (scan_Scanner_Write.calls kk gy _ 0 s _ _ _ w _ HY.out HB.out F6.out).mono ?_
      rintro e wv92 ⟨va_, rfl, ho, hi, hb, hk⟩
      refine ⟨_, rfl, ?_⟩
      have n93_ : Aside0 (Below w.heap.size w wv92) := ⟨hb⟩
      have n94_ : Aside0 (wv92.heap[g2]? = some (.cells #[.int .i64 a0, .int .i64 a1, .int .i64 a2, .int .i64 a3, .int .i64 a4] 49 (0, 0))) := ⟨blk_keep HO.out (by decide) HY.out hk⟩
      have n95_ : Aside0 (IsS58 w wv92 g w2s b2) := ⟨st_keep HX.out hk hny.symm⟩
      have n96_ : Aside0 (IsS58 w wv92 gy (⟨#[]⟩ : ByteArray) 0) := ⟨hi⟩
      have n97_ : Aside0 (Kd.R k49 49 wv92 w.heap.size (fun k_ => k_ ≠ g2) (.slice r6A ([(⟨a0, a1, a2, a3, a4⟩ : S49)] : List S49).length r6C) ([(⟨a0, a1, a2, a3, a4⟩ : S49)] : List S49)) := ⟨rw_keep R6.out HY.out hk⟩
      have n98_ : Aside0 (Kd.R k49 49 wv92 w.heap.size (fun k_ => k_ ≠ g2) va_ ([(⟨a0, a1, a2, a3, a4⟩ : S49)] : List S49)) := ⟨Kd.R_lower (Kd.R_mono (Kd.R_newB ho HOb.out) (fun _ h => h.2)) HBb⟩
      clear HB HO HX HY R6
      have HB := n93_
      have HO := n94_
      have HX := n95_
      have HY := n96_
      have R6 := n97_
      have R5 := n98_
      clear n93_ n94_ n95_ n96_ n97_ n98_
      clear hi hb hk ho HOb HBb
      obtain ⟨r5A, r5C, rfl⟩ := Kd.R_slice R5.out
      refine hK.out _ _ (⟨blk_cell (show wv92.heap[g2]? = _ from HO.out) 0, blk_cell (show wv92.heap[g2]? = _ from HO.out) 1, blk_cell (show wv92.heap[g2]? = _ from HO.out) 2, blk_cell (show wv92.heap[g2]? = _ from HO.out) 3, blk_cell (show wv92.heap[g2]? = _ from HO.out) 4⟩) (fun hHeld => ?_)
      clear hK K
      refine norm_ (a' := ?_) ?_ ?_
      rotate_left
      · show Act.put _ (some 71) _ = _
        simp only [Act.put, List.setIfInBounds_toArray, List.set_cons_zero, List.set_cons_succ, i64_w, i32_w]
        rfl
      refine one_ (i := 9) (N := some 74) #[true, true, true, true, true, true, true, true, true, true, false, false] rfl rfl (one_of HT_.out (by kernel_rfl)) (by decide) (fun K hK => ?_)
      obtain ⟨_, hc0, hC0⟩ := Kd.R_reads' R5.out
      obtain ⟨_, hc1, hC1⟩ := Kd.R_reads' R6.out
      refine goes_ Try.func15 (by kernel_rfl) rfl #[.slice r5A ([(⟨a0, a1, a2, a3, a4⟩ : S49)] : List S49).length r5C, .slice r6A ([(⟨a0, a1, a2, a3, a4⟩ : S49)] : List S49).length r6C] (by rfl) rfl rfl (by (try simp only [List.map_toArray, List.map_cons, List.map_nil]); first | done | rfl) ?_
      with_reducible refine (same_calls kk _ _ ([(⟨a0, a1, a2, a3, a4⟩ : S49)] : List S49) _ _ ([(⟨a0, a1, a2, a3, a4⟩ : S49)] : List S49) true _ hC0 hc0 hC1 hc1 F7.out).mono ?_
      rintro e ws99 ⟨rfl, hb⟩
      refine ⟨_, rfl, ?_⟩
      clear hc0 hC0 hc1 hC1
      have n100_ : Aside0 (Below w.heap.size w ws99) := ⟨below_step HB.out hb⟩
      have n101_ : Aside0 (ws99.heap[g2]? = some (.cells #[.int .i64 a0, .int .i64 a1, .int .i64 a2, .int .i64 a3, .int .i64 a4] 49 (0, 0))) := ⟨blk_below HO.out hb⟩
      have n102_ : Aside0 (IsS58 w ws99 g w2s b2) := ⟨IsS58.below HX.out hb⟩
      have n103_ : Aside0 (IsS58 w ws99 gy (⟨#[]⟩ : ByteArray) 0) := ⟨IsS58.below HY.out hb⟩
      have n104_ : Aside0 (Kd.R k49 49 ws99 w.heap.size (fun k_ => k_ ≠ g2) (.slice r6A ([(⟨a0, a1, a2, a3, a4⟩ : S49)] : List S49).length r6C) ([(⟨a0, a1, a2, a3, a4⟩ : S49)] : List S49)) := ⟨Kd.R_below R6.out hb⟩
      have n105_ : Aside0 (Kd.R k49 49 ws99 w.heap.size (fun k_ => k_ ≠ g2) (.slice r5A ([(⟨a0, a1, a2, a3, a4⟩ : S49)] : List S49).length r5C) ([(⟨a0, a1, a2, a3, a4⟩ : S49)] : List S49)) := ⟨Kd.R_below R5.out hb⟩
      clear HB HO HX HY R6 R5
      have HB := n100_
      have HO := n101_
      have HX := n102_
      have HY := n103_
      have R6 := n104_
      have R5 := n105_
      clear n100_ n101_ n102_ n103_ n104_ n105_
      clear hb
      refine hK.out _ _ (⟨blk_cell (show ws99.heap[g2]? = _ from HO.out) 0, blk_cell (show ws99.heap[g2]? = _ from HO.out) 1, blk_cell (show ws99.heap[g2]? = _ from HO.out) 2, blk_cell (show ws99.heap[g2]? = _ from HO.out) 3, blk_cell (show ws99.heap[g2]? = _ from HO.out) 4⟩) (fun hHeld => ?_)
      clear hK K
      refine norm_ (a' := ?_) ?_ ?_
      rotate_left
      · show Act.put _ (some 74) _ = _
        simp only [Act.put, List.setIfInBounds_toArray, List.set_cons_zero, List.set_cons_succ, i64_w, i32_w]
        rfl
      refine pure_ (i := 10) (N := some 75) (v := ?_) (a' := ?_) #[true, true, true, true, true, true, true, true, true, true, true, false] rfl rfl (any_of HT_.out (by kernel_rfl)) (fun _ _ _ h => h) (Or.inl ⟨by rfl, ?_⟩) ?_ ?_
      rotate_left
      · intro w'
        go_simp
        with_reducible rfl
      rotate_left
      · simp only [Act.put, List.setIfInBounds_toArray, List.set_cons_zero, List.set_cons_succ, i64_w, i32_w]
        rfl
      refine pure_ (i := 11) (N := some 4) (v := ?_) (a' := ?_) #[true, true, true, true, true, true, true, true, true, true, true, true] rfl rfl (any_of HT_.out (by kernel_rfl)) (fun _ _ _ h => h) (Or.inl ⟨by rfl, ?_⟩) ?_ ?_
      rotate_left
      · intro w'
        go_simp
        with_reducible rfl
      rotate_left
      · simp only [Act.put, List.setIfInBounds_toArray, List.set_cons_zero, List.set_cons_succ, i64_w, i32_w]
        rfl
      refine done_ (done_of HT_.out (by kernel_rfl)) ?_
      try go_wp2
      go_ret
      exact ⟨by first | rfl | (simp; done), HB.out⟩
  | succ kq =>
    have e := HI.out
    have hz : decide ((i : Int) < (m : Int)) = true := decide_eq_true (by omega)
    have hz2 : (i : Int) < (m : Int) := by omega
    have hz3 : i < m := by omega
    have hi1 : (0 : Int) ≤ (i : Int) + 1 := by omega
    have hi2 : (i : Int) + 1 ≤ 10 := by omega
    have hw1 : wrap64 ((i : Int) + 1) = (i : Int) + 1 := wrap64_id (by omega) (by omega)
    have z1 : b.size + 1 ≤ 9223372036854775807 := by omega
    have z2 := eq_false (Nat.not_lt.2 z1)
    clear e
    go_wp2_with fail
    go_roundg kq
    case measure => first | omega | exact Nat.lt_succ_self _
    case rel => exact ⟨i + 1, b ++ (⟨#[0]⟩ : ByteArray), by first | rfl | (simp; done), by first | (push_cast; rfl) | (simp; done) | rfl, ⟨by have := HI.out; omega⟩, ⟨by rw [HBd.out, bodyL_succ]⟩, ⟨rfl⟩⟩

end Go.Proofs.Ytmccgkbbgicglaa.ScanFalseW
