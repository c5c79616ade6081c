-- Written by a program of this session (wip/myprint.py), over the words of the print
import Derived.Test.YtmccgkbbgicglaaQScanAllx0
import Derived.Test.YtmccgkbbgicglaaQScanAllx2
import Derived.Test.YtmccgkbbgicglaaQScanAllx7
import Derived.Test.YtmccgkbbgicglaaQScanAllx8
import Derived.Test.YtmccgkbbgicglaaQScanAllx9
import Derived.Test.YtmccgkbbgicglaaQScanAllx10
namespace Go.Proofs.Ytmccgkbbgicglaa.QScanAll
open Go.RowKit Go.Proofs.YtmccgkbbgicglaaW.PrintWords Go.Proofs.YtmccgkbbgicglaaW.PrintLast Go.Proofs.YtmccgkbbgicglaaW.PrintMore
attribute [local go_sem] max2_int min2_int max_two min_two max_three min_three max_four min_four   -- for this text's walks alone
set_option linter.unusedVariables false
set_option linter.unusedSimpArgs false


/-! ### bournelaw11_ScanCut: function 8 -/
mutual
def bournelaw11_ScanCut.l0 : Nat → ByteArray → Int → Int → Int → Int → Int → Int → Int → Int → Int → Int → Int → ByteArray → Int → Option (Bool)
  | 0, _, _, _, _, _, _, _, _, _, _, _, _, _, _ => none
  | k + 1, x6, x7, x392000, x392001, x392002, x392003, x392004, x393000, x393001, x393002, x393003, x393004, x397000, x397001 => if x7 < (x6.size : Int) then (if 0 ≤ x7 then (if x7 ≤ (wrap64 (x7 + 1)) then (if (wrap64 (x7 + 1)) ≤ (x6.size : Int) then ((scan_Scanner_Write.f k x397000 x397001 (x6.extract (x7 : Int).toNat ((wrap64 (x7 + 1)) : Int).toNat)).bind fun bt398 => (if x7 < (wrap64 ((x6.size : Int) - 1)) then (if (bt398.1.length : Int) = 0 then ((scan_Scanner_Waits.f bt398.2.1 bt398.2.2).bind fun bt403 => (if 0 ≤ (wrap64 (x7 + 1)) then (if bt403.1.toList = (x6.extract 0 ((wrap64 (x7 + 1)) : Int).toNat).toList then ((scan_Scanner_Bad.f bt403.2.1 bt403.2.2).bind fun bt406 => (bournelaw11_ScanCut.j1 k x6 x7 bt398.1 (bt406.1 != 0) x392000 x392001 x392002 x392003 x392004 x393000 x393001 x393002 x393003 x393004 bt406.2.1 bt406.2.2)) else (bournelaw11_ScanCut.j1 k x6 x7 bt398.1 true x392000 x392001 x392002 x392003 x392004 x393000 x393001 x393002 x393003 x393004 bt403.2.1 bt403.2.2)) else (none))) else (bournelaw11_ScanCut.j1 k x6 x7 bt398.1 true x392000 x392001 x392002 x392003 x392004 x393000 x393001 x393002 x393003 x393004 bt398.2.1 bt398.2.2)) else (bournelaw11_ScanCut.j1 k x6 x7 bt398.1 false x392000 x392001 x392002 x392003 x392004 x393000 x393001 x393002 x393003 x393004 bt398.2.1 bt398.2.2))) else (none)) else (none)) else (none)) else ((bournelaw11_framed.f k x393000 x393001 x393002 x393003 x393004).bind fun t416 => (if t416.toList = ([] : List UInt8) then ((scan_Scanner_Write.f k x397000 x397001 (⟨#[]⟩ : ByteArray)).bind fun bt417 => (some ((bt417.1.length : Int) == 0))) else (if 0 ≤ (wrap64 ((t416.size : Int) - 1)) then (if (wrap64 ((t416.size : Int) - 1)) ≤ (t416.size : Int) then ((scan_Scanner_Write.f k x397000 x397001 (t416.extract 0 ((wrap64 ((t416.size : Int) - 1)) : Int).toNat)).bind fun bt422 => ((scan_Scanner_Close.f k bt422.2.1 bt422.2.2).bind fun bt427 => (bournelaw11_ScanCut.l1 k t416 bt422.1 bt427.1 0 0 bt427.2.1 bt427.2.2))) else (none)) else (none))))
def bournelaw11_ScanCut.j1 : Nat → ByteArray → Int → List (S49) → Bool → Int → Int → Int → Int → Int → Int → Int → Int → Int → Int → ByteArray → Int → Option (Bool)
  | 0, _, _, _, _, _, _, _, _, _, _, _, _, _, _, _, _ => none
  | k + 1, x6, x7, x8, x57, x392000, x392001, x392002, x392003, x392004, x393000, x393001, x393002, x393003, x393004, x397000, x397001 => if x57 = true then (some false) else (if x7 = (wrap64 ((x6.size : Int) - 1)) then ((bournelaw0_SameOps.f k x8 (([(⟨x392000, x392001, x392002, x392003, x392004⟩ : S49)] : List (S49)))).bind fun t412 => (if t412 = true then ((scan_Scanner_Waits.f x397000 x397001).bind fun bt413 => (if bt413.1.toList = ([] : List UInt8) then (bournelaw11_ScanCut.l0 k x6 (wrap64 (x7 + 1)) x392000 x392001 x392002 x392003 x392004 x393000 x393001 x393002 x393003 x393004 bt413.2.1 bt413.2.2) else (some false))) else (some false))) else (bournelaw11_ScanCut.l0 k x6 (wrap64 (x7 + 1)) x392000 x392001 x392002 x392003 x392004 x393000 x393001 x393002 x393003 x393004 x397000 x397001))
def bournelaw11_ScanCut.l1 : Nat → ByteArray → List (S49) → List (S49) → Int → Int → ByteArray → Int → Option (Bool)
  | 0, _, _, _, _, _, _, _ => none
  | k + 1, x9, x10, x11, x12, x13, x397000, x397001 => if x13 < (x11.length : Int) then (if 0 ≤ x13 then (if ((rd_T49 x11 x13).f0) = 3 then (bournelaw11_ScanCut.l1 k x9 x10 x11 (wrap64 (x12 + ((rd_T49 x11 x13).f4))) (wrap64 (x13 + 1)) x397000 x397001) else ((bournelaw11_framed.f k ((rd_T49 x11 x13).f0) ((rd_T49 x11 x13).f1) ((rd_T49 x11 x13).f2) ((rd_T49 x11 x13).f3) ((rd_T49 x11 x13).f4)).bind fun t435 => (bournelaw11_ScanCut.l1 k x9 x10 x11 (wrap64 (x12 + (t435.size : Int))) (wrap64 (x13 + 1)) x397000 x397001))) else (none)) else (if (x10.length : Int) = 0 then (if (x11.length : Int) > 0 then (if 0 < (x11.length : Int) then (if ((rd_T49 x11 0).f0) = 3 then (if x12 = (wrap64 ((x9.size : Int) - 1)) then ((scan_Scanner_Waits.f x397000 x397001).bind fun bt437 => (if bt437.1.toList = ([] : List UInt8) then ((scan_Scanner_Bad.f bt437.2.1 bt437.2.2).bind fun bt440 => (some (bt440.1 == 0))) else (some false))) else (some false)) else (some false)) else (none)) else (some false)) else (some false))
end
def bournelaw11_ScanCut.f (k : Nat) (a0_0 : Int) (a0_1 : Int) (a0_2 : Int) (a0_3 : Int) (a0_4 : Int) (a1_0 : Int) (a1_1 : Int) (a1_2 : Int) (a1_3 : Int) (a1_4 : Int) : Option (Bool) := (bournelaw11_awake.f k).bind fun t393 => (if t393 = true then ((scan_New.f).bind fun bt394 => ((bournelaw11_framed.f k a0_0 a0_1 a0_2 a0_3 a0_4).bind fun t397 => (bournelaw11_ScanCut.l0 k t397 0 a0_0 a0_1 a0_2 a0_3 a0_4 a1_0 a1_1 a1_2 a1_3 a1_4 bt394.1 bt394.2))) else (some false))
theorem bournelaw11_ScanCut.mono_l : ∀ k, (∀ y0 y1 y2 y3 y4 y5 y6 y7 y8 y9 y10 y11 y12 y13, LeO (bournelaw11_ScanCut.l0 k y0 y1 y2 y3 y4 y5 y6 y7 y8 y9 y10 y11 y12 y13) (bournelaw11_ScanCut.l0 (k + 1) y0 y1 y2 y3 y4 y5 y6 y7 y8 y9 y10 y11 y12 y13)) ∧ (∀ y0 y1 y2 y3 y4 y5 y6 y7 y8 y9 y10 y11 y12 y13 y14 y15, LeO (bournelaw11_ScanCut.j1 k y0 y1 y2 y3 y4 y5 y6 y7 y8 y9 y10 y11 y12 y13 y14 y15) (bournelaw11_ScanCut.j1 (k + 1) y0 y1 y2 y3 y4 y5 y6 y7 y8 y9 y10 y11 y12 y13 y14 y15)) ∧ (∀ y0 y1 y2 y3 y4 y5 y6, LeO (bournelaw11_ScanCut.l1 k y0 y1 y2 y3 y4 y5 y6) (bournelaw11_ScanCut.l1 (k + 1) y0 y1 y2 y3 y4 y5 y6))
 | 0 => ⟨fun _ _ _ _ _ _ _ _ _ _ _ _ _ _ r h => by simp [bournelaw11_ScanCut.l0] at h, fun _ _ _ _ _ _ _ _ _ _ _ _ _ _ _ _ r h => by simp [bournelaw11_ScanCut.j1] at h, fun _ _ _ _ _ _ _ r h => by simp [bournelaw11_ScanCut.l1] at h⟩
 | k + 1 => by
  obtain ⟨ih0, ih1, ih2⟩ := bournelaw11_ScanCut.mono_l k
  refine ⟨?_, ?_, ?_⟩
  ·intro y0 y1 y2 y3 y4 y5 y6 y7 y8 y9 y10 y11 y12 y13
   unfold bournelaw11_ScanCut.l0
   repeat' first
    | (with_reducible exact ih0 _ _ _ _ _ _ _ _ _ _ _ _ _ _)
    | (with_reducible exact ih1 _ _ _ _ _ _ _ _ _ _ _ _ _ _ _ _)
    | (with_reducible exact ih2 _ _ _ _ _ _ _)
    | (with_reducible exact bournelaw0_SameOps.mono _ _ _)
    | (with_reducible exact bournelaw11_awake.mono _)
    | (with_reducible exact bournelaw11_framed.mono _ _ _ _ _ _)
    | (with_reducible exact scan_Scanner_Close.mono _ _ _)
    | (with_reducible exact scan_Scanner_Write.mono _ _ _ _)
    | (with_reducible exact LeO.refl _)
    | (with_reducible exact LeO.none _)
    | (with_reducible refine LeO.ite ?_ ?_)
    | (with_reducible refine LeO.bind ?_ (fun _ => ?_))
    | exact ih0 _ _ _ _ _ _ _ _ _ _ _ _ _ _
    | exact ih1 _ _ _ _ _ _ _ _ _ _ _ _ _ _ _ _
    | exact ih2 _ _ _ _ _ _ _
    | exact bournelaw0_SameOps.mono _ _ _
    | exact bournelaw11_awake.mono _
    | exact bournelaw11_framed.mono _ _ _ _ _ _
    | exact scan_Scanner_Close.mono _ _ _
    | exact scan_Scanner_Write.mono _ _ _ _
    | exact LeO.none _
    | refine LeO.ite ?_ ?_
    | refine LeO.bind ?_ (fun _ => ?_)
  ·intro y0 y1 y2 y3 y4 y5 y6 y7 y8 y9 y10 y11 y12 y13 y14 y15
   unfold bournelaw11_ScanCut.j1
   repeat' first
    | (with_reducible exact ih0 _ _ _ _ _ _ _ _ _ _ _ _ _ _)
    | (with_reducible exact ih1 _ _ _ _ _ _ _ _ _ _ _ _ _ _ _ _)
    | (with_reducible exact ih2 _ _ _ _ _ _ _)
    | (with_reducible exact bournelaw0_SameOps.mono _ _ _)
    | (with_reducible exact bournelaw11_awake.mono _)
    | (with_reducible exact bournelaw11_framed.mono _ _ _ _ _ _)
    | (with_reducible exact scan_Scanner_Close.mono _ _ _)
    | (with_reducible exact scan_Scanner_Write.mono _ _ _ _)
    | (with_reducible exact LeO.refl _)
    | (with_reducible exact LeO.none _)
    | (with_reducible refine LeO.ite ?_ ?_)
    | (with_reducible refine LeO.bind ?_ (fun _ => ?_))
    | exact ih0 _ _ _ _ _ _ _ _ _ _ _ _ _ _
    | exact ih1 _ _ _ _ _ _ _ _ _ _ _ _ _ _ _ _
    | exact ih2 _ _ _ _ _ _ _
    | exact bournelaw0_SameOps.mono _ _ _
    | exact bournelaw11_awake.mono _
    | exact bournelaw11_framed.mono _ _ _ _ _ _
    | exact scan_Scanner_Close.mono _ _ _
    | exact scan_Scanner_Write.mono _ _ _ _
    | exact LeO.none _
    | refine LeO.ite ?_ ?_
    | refine LeO.bind ?_ (fun _ => ?_)
  ·intro y0 y1 y2 y3 y4 y5 y6
   unfold bournelaw11_ScanCut.l1
   repeat' first
    | (with_reducible exact ih0 _ _ _ _ _ _ _ _ _ _ _ _ _ _)
    | (with_reducible exact ih1 _ _ _ _ _ _ _ _ _ _ _ _ _ _ _ _)
    | (with_reducible exact ih2 _ _ _ _ _ _ _)
    | (with_reducible exact bournelaw0_SameOps.mono _ _ _)
    | (with_reducible exact bournelaw11_awake.mono _)
    | (with_reducible exact bournelaw11_framed.mono _ _ _ _ _ _)
    | (with_reducible exact scan_Scanner_Close.mono _ _ _)
    | (with_reducible exact scan_Scanner_Write.mono _ _ _ _)
    | (with_reducible exact LeO.refl _)
    | (with_reducible exact LeO.none _)
    | (with_reducible refine LeO.ite ?_ ?_)
    | (with_reducible refine LeO.bind ?_ (fun _ => ?_))
    | exact ih0 _ _ _ _ _ _ _ _ _ _ _ _ _ _
    | exact ih1 _ _ _ _ _ _ _ _ _ _ _ _ _ _ _ _
    | exact ih2 _ _ _ _ _ _ _
    | exact bournelaw0_SameOps.mono _ _ _
    | exact bournelaw11_awake.mono _
    | exact bournelaw11_framed.mono _ _ _ _ _ _
    | exact scan_Scanner_Close.mono _ _ _
    | exact scan_Scanner_Write.mono _ _ _ _
    | exact LeO.none _
    | refine LeO.ite ?_ ?_
    | refine LeO.bind ?_ (fun _ => ?_)
theorem bournelaw11_ScanCut.mono : ∀ a0 a1 a2 a3 a4 a5 a6 a7 a8 a9 k, LeO (bournelaw11_ScanCut.f k a0 a1 a2 a3 a4 a5 a6 a7 a8 a9) (bournelaw11_ScanCut.f (k + 1) a0 a1 a2 a3 a4 a5 a6 a7 a8 a9) := by
 intro a0 a1 a2 a3 a4 a5 a6 a7 a8 a9 k
 obtain ⟨ih0, ih1, ih2⟩ := bournelaw11_ScanCut.mono_l k
 unfold bournelaw11_ScanCut.f
 repeat' first
    | (with_reducible exact ih0 _ _ _ _ _ _ _ _ _ _ _ _ _ _)
    | (with_reducible exact ih1 _ _ _ _ _ _ _ _ _ _ _ _ _ _ _ _)
    | (with_reducible exact ih2 _ _ _ _ _ _ _)
    | (with_reducible exact bournelaw0_SameOps.mono _ _ _)
    | (with_reducible exact bournelaw11_awake.mono _)
    | (with_reducible exact bournelaw11_framed.mono _ _ _ _ _ _)
    | (with_reducible exact scan_Scanner_Close.mono _ _ _)
    | (with_reducible exact scan_Scanner_Write.mono _ _ _ _)
    | (with_reducible exact LeO.refl _)
    | (with_reducible exact LeO.none _)
    | (with_reducible refine LeO.ite ?_ ?_)
    | (with_reducible refine LeO.bind ?_ (fun _ => ?_))
    | exact ih0 _ _ _ _ _ _ _ _ _ _ _ _ _ _
    | exact ih1 _ _ _ _ _ _ _ _ _ _ _ _ _ _ _ _
    | exact ih2 _ _ _ _ _ _ _
    | exact bournelaw0_SameOps.mono _ _ _
    | exact bournelaw11_awake.mono _
    | exact bournelaw11_framed.mono _ _ _ _ _ _
    | exact scan_Scanner_Close.mono _ _ _
    | exact scan_Scanner_Write.mono _ _ _ _
    | exact LeO.none _
    | refine LeO.ite ?_ ?_
    | refine LeO.bind ?_ (fun _ => ?_)
def bournelaw11_ScanCut.T11 : Bool × List (List Nat × List Nat) := (true, [([], []), ([], []), ([1], [1]), ([2], [2]), ([0, 3], [0, 3]), ([4], [4]), ([5], [5]), ([6, 5], [5, 6]), ([7, 5], [5, 7]), ([8, 5, 5], [5, 8]), ([9], [9]), ([10, 9, 9], [9, 10]), ([9], [9]), ([9], [9]), ([13, 9], [9, 13]), ([12, 14, 9], [9, 12, 14]), ([11, 15, 9], [9, 11, 15]), ([9, 16, 5], [5, 9, 16]), ([17, 11, 5], [5, 17]), ([18], [18]), ([19, 18, 18], [18, 19]), ([20, 18], [18, 20]), ([18, 21, 5], [5, 18, 21]), ([5, 22], [5, 22])])
def bournelaw11_ScanCut.B11 : List Nat := [0, 0, 2, 6, 15, 31, 63, 127, 255, 511, 1023, 2047, 1023, 1023, 9215, 29695, 65535, 131071, 262143, 524287, 1048575, 2097151, 4194303, 8388607]
theorem bournelaw11_ScanCut.tab11 : rtab .any (opsOf Try.f8 11) = bournelaw11_ScanCut.T11 := by kernel_rfl
theorem bournelaw11_ScanCut.bits11 : waitsOk bournelaw11_ScanCut.T11.2 bournelaw11_ScanCut.B11 = true := by kernel_rfl
set_option maxHeartbeats 8000000 in
set_option maxRecDepth 100000 in
theorem bournelaw11_ScanCut.calls (k : Nat) (a0_0 : Int) (a0_1 : Int) (a0_2 : Int) (a0_3 : Int) (a0_4 : Int) (a1_0 : Int) (a1_1 : Int) (a1_2 : Int) (a1_3 : Int) (a1_4 : Int) (r : Bool) (w : World) (h : bournelaw11_ScanCut.f k a0_0 a0_1 a0_2 a0_3 a0_4 a1_0 a1_1 a1_2 a1_3 a1_4 = some r) (hr_ : r = true := by first | rfl | (apply Aside0.out; with_reducible assumption)) :
  Calls Try.prog 8 #[.agg #[.int .i64 a0_0, .int .i64 a0_1, .int .i64 a0_2, .int .i64 a0_3, .int .i64 a0_4], .agg #[.int .i64 a1_0, .int .i64 a1_1, .int .i64 a1_2, .int .i64 a1_3, .int .i64 a1_4]] w fun e w' => e = .returned (.bool r) ∧ Below w.heap.size w w' := by
 have HR_ := Aside0.mk hr_
 clear hr_
 have hu49 := Try.underlying49
 have HB := Aside0.mk (Below.refl w.heap.size w)
 have H : ((bournelaw11_awake.f k).bind fun t393 => (if t393 = true then ((scan_New.f).bind fun bt394 => ((bournelaw11_framed.f k a0_0 a0_1 a0_2 a0_3 a0_4).bind fun t397 => (bournelaw11_ScanCut.l0 k t397 0 a0_0 a0_1 a0_2 a0_3 a0_4 a1_0 a1_1 a1_2 a1_3 a1_4 bt394.1 bt394.2))) else (some false))) = some r := h
 clear h
 replace H := Option.bind_eq_some_iff.mp H
 obtain ⟨t393, A30, H⟩ := H
 replace H : (if t393 = true then ((scan_New.f).bind fun bt394 => ((bournelaw11_framed.f k a0_0 a0_1 a0_2 a0_3 a0_4).bind fun t397 => (bournelaw11_ScanCut.l0 k t397 0 a0_0 a0_1 a0_2 a0_3 a0_4 a1_0 a1_1 a1_2 a1_3 a1_4 bt394.1 bt394.2))) else (some false)) = some r := H
 have A3 := Aside0.mk A30
 clear A30
 by_cases c4 : t393 = true
 ·subst c4
  have H1 : ((scan_New.f).bind fun bt394 => ((bournelaw11_framed.f k a0_0 a0_1 a0_2 a0_3 a0_4).bind fun t397 => (bournelaw11_ScanCut.l0 k t397 0 a0_0 a0_1 a0_2 a0_3 a0_4 a1_0 a1_1 a1_2 a1_3 a1_4 bt394.1 bt394.2))) = some r := by rw [if_pos rfl] at H; exact H
  clear H
  have H := H1
  clear H1
  replace H := Option.bind_eq_some_iff.mp H
  obtain ⟨⟨t394, t395⟩, A50, H⟩ := H
  replace H : ((bournelaw11_framed.f k a0_0 a0_1 a0_2 a0_3 a0_4).bind fun t397 => (bournelaw11_ScanCut.l0 k t397 0 a0_0 a0_1 a0_2 a0_3 a0_4 a1_0 a1_1 a1_2 a1_3 a1_4 t394 t395)) = some r := H
  have A5 := Aside0.mk A50
  clear A50
  replace H := Option.bind_eq_some_iff.mp H
  obtain ⟨t397, A60, H⟩ := H
  replace H : (bournelaw11_ScanCut.l0 k t397 0 a0_0 a0_1 a0_2 a0_3 a0_4 a1_0 a1_1 a1_2 a1_3 a1_4 t394 t395) = some r := H
  have A6 := Aside0.mk A60
  clear A60
  have H' := Aside0.mk H
  clear H
  go_enter Try.func8, Try.ntmps8
  go_wp2_with (first | ((with_reducible refine gate_dst (N := 2) rfl ?_); (try (refine gate_guard (by rfl) ?_; dsimp only)); refine box_event ?hg (N := 2) ?hd (cs := #[.int .i64 a0_0, .int .i64 a0_1, .int .i64 a0_2, .int .i64 a0_3, .int .i64 a0_4]) (t := 49) ?hr ?_; (case hd => rfl); (case hg => rfl); (case hr => first | (go_simp; done) | (go_simp; rfl)); intro gb391 hg w7 hbox hb; have n0_ := Aside0.mk (below_step (by repeat (first | (with_reducible first | exact HB.out | apply below_alloc | apply pw_below_drewN | apply below_drew1) | exact HB.out)) hb); have n1_ := Aside0.mk (hbox); have n2_ := Aside0.mk ((by rw [hg]; exact (below_size (by repeat (first | (with_reducible first | exact HB.out | apply below_alloc | apply pw_below_drewN | apply below_drew1) | exact HB.out))) : w.heap.size ≤ gb391)); have n3_ := Aside0.mk ((by rw [hg]; exact (below_size (by repeat (first | (with_reducible first | exact HB.out | apply below_alloc | apply pw_below_drewN | apply below_drew1) | exact HB.out))) : w.heap.size ≤ gb391)); clear HB; have HB := n0_; have BK391 := n1_; have GW391 := n2_; have GE391 := n3_; clear n0_ n1_ n2_ n3_; clear hb hbox hg) | ((with_reducible refine gate_dst (N := 3) rfl ?_); (try (refine gate_guard (by rfl) ?_; dsimp only)); refine box_event ?hg (N := 3) ?hd (cs := #[.int .i64 a1_0, .int .i64 a1_1, .int .i64 a1_2, .int .i64 a1_3, .int .i64 a1_4]) (t := 49) ?hr ?_; (case hd => rfl); (case hg => rfl); (case hr => first | (go_simp; done) | (go_simp; rfl)); intro gb392 hg w8 hbox hb; have n0_ := Aside0.mk (blk_below (g := gb391) (o := .cells #[.int .i64 a0_0, .int .i64 a0_1, .int .i64 a0_2, .int .i64 a0_3, .int .i64 a0_4] 49 (0, 0)) (by (with_reducible repeat (first | refine blk_drewN ?_ _ | refine blk_drew ?_ | refine blk_alloc ?_ _)); exact BK391.out) hb); have n1_ := Aside0.mk (below_step (by repeat (first | (with_reducible first | exact HB.out | apply below_alloc | apply pw_below_drewN | apply below_drew1 | refine below_set ?_ GE391.out) | exact HB.out)) hb); have n2_ := Aside0.mk (hbox); have n3_ := Aside0.mk ((by rw [hg]; exact (below_size (by repeat (first | (with_reducible first | exact HB.out | apply below_alloc | apply pw_below_drewN | apply below_drew1 | refine below_set ?_ GE391.out) | exact HB.out))) : w.heap.size ≤ gb392)); have n4_ := Aside0.mk ((by rw [hg]; exact (below_size (by repeat (first | (with_reducible first | exact HB.out | apply below_alloc | apply pw_below_drewN | apply below_drew1 | refine below_set ?_ GE391.out) | exact HB.out))) : w.heap.size ≤ gb392)); have n5_ := Aside0.mk ((by rw [hg]; exact Nat.ne_of_lt (blk_lt (g := gb391) (o := .cells #[.int .i64 a0_0, .int .i64 a0_1, .int .i64 a0_2, .int .i64 a0_3, .int .i64 a0_4] 49 (0, 0)) (by (with_reducible repeat (first | refine blk_drewN ?_ _ | refine blk_drew ?_ | refine blk_alloc ?_ _)); exact BK391.out)) : gb391 ≠ gb392)); have n6_ := Aside0.mk ((by rw [hg]; exact Nat.ne_of_gt (blk_lt (g := gb391) (o := .cells #[.int .i64 a0_0, .int .i64 a0_1, .int .i64 a0_2, .int .i64 a0_3, .int .i64 a0_4] 49 (0, 0)) (by (with_reducible repeat (first | refine blk_drewN ?_ _ | refine blk_drew ?_ | refine blk_alloc ?_ _)); exact BK391.out)) : gb392 ≠ gb391)); clear BK391; clear HB; have BK391 := n0_; have HB := n1_; have BK392 := n2_; have GW392 := n3_; have GE392 := n4_; have NB391_392 := n5_; have NB392_391 := n6_; clear n0_ n1_ n2_ n3_ n4_ n5_ n6_; clear hb hbox hg) | ((with_reducible refine gate_callee (f := 21) rfl ?_); refine goesL_ (some 14) rfl rfl Try.func21 (by kernel_rfl) rfl #[] rfl (by (try simp only [List.map_toArray, List.map_cons, List.map_nil]); first | done | rfl | (simp only [List.length_drop, List.length_take]; rfl)) ?_; (with_reducible refine (bournelaw11_awake.calls k  true _ A3.out).mono ?_); rintro e w9 ⟨rfl, hb⟩; refine ⟨_, rfl, ?_⟩; have n0_ := Aside0.mk (blk_below (g := gb391) (o := .cells #[.int .i64 a0_0, .int .i64 a0_1, .int .i64 a0_2, .int .i64 a0_3, .int .i64 a0_4] 49 (0, 0)) (by (with_reducible repeat (first | refine blk_drewN ?_ _ | refine blk_drew ?_ | refine blk_alloc ?_ _)); exact BK391.out) hb); have n1_ := Aside0.mk (blk_below (g := gb392) (o := .cells #[.int .i64 a1_0, .int .i64 a1_1, .int .i64 a1_2, .int .i64 a1_3, .int .i64 a1_4] 49 (0, 0)) (by (with_reducible repeat (first | refine blk_drewN ?_ _ | refine blk_drew ?_ | refine blk_alloc ?_ _)); exact BK392.out) hb); have n2_ := Aside0.mk (below_step (by repeat (first | (with_reducible first | exact HB.out | apply below_alloc | apply pw_below_drewN | apply below_drew1 | refine below_set ?_ GE391.out | refine below_set ?_ GE392.out) | exact HB.out)) hb); clear BK391; clear BK392; clear HB; have BK391 := n0_; have BK392 := n1_; have HB := n2_; clear n0_ n1_ n2_; (try clear hb); (try clear hb2); (try clear hk); (try clear hi)) | ((with_reducible refine gate_callee (f := 9) rfl ?_); refine goesL_ (some 16) rfl rfl Try.func9 (by kernel_rfl) rfl #[] rfl (by (try simp only [List.map_toArray, List.map_cons, List.map_nil]); first | done | rfl | (simp only [List.length_drop, List.length_take]; rfl)) ?_; (with_reducible refine (scan_New.calls  t394 t395 w _ ?side1 A5.out).mono ?_); (case side1 => repeat (first | (with_reducible first | exact HB.out | apply below_alloc | apply pw_below_drewN | apply below_drew1 | refine below_set ?_ GE391.out | refine below_set ?_ GE392.out) | exact HB.out)); rintro e w10 ⟨g396, rfl, hi, hb, hb2⟩; refine ⟨_, rfl, ?_⟩; have n0_ := Aside0.mk (blk_below (g := gb391) (o := .cells #[.int .i64 a0_0, .int .i64 a0_1, .int .i64 a0_2, .int .i64 a0_3, .int .i64 a0_4] 49 (0, 0)) (by (with_reducible repeat (first | refine blk_drewN ?_ _ | refine blk_drew ?_ | refine blk_alloc ?_ _)); exact BK391.out) hb2); have n1_ := Aside0.mk (blk_below (g := gb392) (o := .cells #[.int .i64 a1_0, .int .i64 a1_1, .int .i64 a1_2, .int .i64 a1_3, .int .i64 a1_4] 49 (0, 0)) (by (with_reducible repeat (first | refine blk_drewN ?_ _ | refine blk_drew ?_ | refine blk_alloc ?_ _)); exact BK392.out) hb2); have n2_ := Aside0.mk (hb); have n3_ := Aside0.mk (hi); have n4_ := Aside0.mk (IsS58.ne_blk hi (blk_below (g := gb391) (o := .cells #[.int .i64 a0_0, .int .i64 a0_1, .int .i64 a0_2, .int .i64 a0_3, .int .i64 a0_4] 49 (0, 0)) (by (with_reducible repeat (first | refine blk_drewN ?_ _ | refine blk_drew ?_ | refine blk_alloc ?_ _)); exact BK391.out) hb2) (by decide)); have n5_ := Aside0.mk (Ne.symm (IsS58.ne_blk hi (blk_below (g := gb391) (o := .cells #[.int .i64 a0_0, .int .i64 a0_1, .int .i64 a0_2, .int .i64 a0_3, .int .i64 a0_4] 49 (0, 0)) (by (with_reducible repeat (first | refine blk_drewN ?_ _ | refine blk_drew ?_ | refine blk_alloc ?_ _)); exact BK391.out) hb2) (by decide))); have n6_ := Aside0.mk (IsS58.ne_blk hi (blk_below (g := gb392) (o := .cells #[.int .i64 a1_0, .int .i64 a1_1, .int .i64 a1_2, .int .i64 a1_3, .int .i64 a1_4] 49 (0, 0)) (by (with_reducible repeat (first | refine blk_drewN ?_ _ | refine blk_drew ?_ | refine blk_alloc ?_ _)); exact BK392.out) hb2) (by decide)); have n7_ := Aside0.mk (Ne.symm (IsS58.ne_blk hi (blk_below (g := gb392) (o := .cells #[.int .i64 a1_0, .int .i64 a1_1, .int .i64 a1_2, .int .i64 a1_3, .int .i64 a1_4] 49 (0, 0)) (by (with_reducible repeat (first | refine blk_drewN ?_ _ | refine blk_drew ?_ | refine blk_alloc ?_ _)); exact BK392.out) hb2) (by decide))); clear BK391; clear BK392; clear HB; have BK391 := n0_; have BK392 := n1_; have HB := n2_; have HI396 := n3_; have NB396_391 := n4_; have NB391_396 := n5_; have NB396_392 := n6_; have NB392_396 := n7_; clear n0_ n1_ n2_ n3_ n4_ n5_ n6_ n7_; (try clear hb); (try clear hb2); (try clear hk); (try clear hi); have hnb11 := NB391_392.out; have hnc11 := NB392_391.out; have hnb12 := NB391_396.out; have hnc12 := NB396_391.out; have hcz13_0 : w10.cell? ⟨gb391, 0, none⟩ = some (.int .i64 a0_0) := (blk_cell BK391.out 0).trans rfl; have hcz13_1 : w10.cell? ⟨gb391, 1, none⟩ = some (.int .i64 a0_1) := (blk_cell BK391.out 1).trans rfl; have hcz13_2 : w10.cell? ⟨gb391, 2, none⟩ = some (.int .i64 a0_2) := (blk_cell BK391.out 2).trans rfl; have hcz13_3 : w10.cell? ⟨gb391, 3, none⟩ = some (.int .i64 a0_3) := (blk_cell BK391.out 3).trans rfl; have hcz13_4 : w10.cell? ⟨gb391, 4, none⟩ = some (.int .i64 a0_4) := (blk_cell BK391.out 4).trans rfl; have hfz13_0 := blk_frozen BK391.out 0; have hfz13_1 := blk_frozen BK391.out 1; have hfz13_2 := blk_frozen BK391.out 2; have hfz13_3 := blk_frozen BK391.out 3; have hfz13_4 := blk_frozen BK391.out 4) | ((with_reducible refine gate_callee (f := 24) rfl ?_); refine goesL_ (some 18) rfl rfl Try.func24 (by kernel_rfl) rfl #[.agg #[.int .i64 a0_0, .int .i64 a0_1, .int .i64 a0_2, .int .i64 a0_3, .int .i64 a0_4]] rfl (by (try simp only [List.map_toArray, List.map_cons, List.map_nil]); first | done | rfl | (simp only [List.length_drop, List.length_take]; rfl)) ?_; (with_reducible refine (bournelaw11_framed.calls k a0_0 a0_1 a0_2 a0_3 a0_4 t397 _ A6.out).mono ?_); rintro e w14 ⟨rfl, hb⟩; refine ⟨_, rfl, ?_⟩; have n0_ := Aside0.mk (blk_below (g := gb391) (o := .cells #[.int .i64 a0_0, .int .i64 a0_1, .int .i64 a0_2, .int .i64 a0_3, .int .i64 a0_4] 49 (0, 0)) (by (with_reducible repeat (first | refine blk_drewN ?_ _ | refine blk_drew ?_ | refine blk_alloc ?_ _)); exact BK391.out) hb); have n1_ := Aside0.mk (blk_below (g := gb392) (o := .cells #[.int .i64 a1_0, .int .i64 a1_1, .int .i64 a1_2, .int .i64 a1_3, .int .i64 a1_4] 49 (0, 0)) (by (with_reducible repeat (first | refine blk_drewN ?_ _ | refine blk_drew ?_ | refine blk_alloc ?_ _)); exact BK392.out) hb); have n2_ := Aside0.mk (IsS58.below (by repeat (first | (with_reducible first | exact HI396.out | apply IsS58.alloc | apply IsS58.drewN | apply IsS58.drew | apply IsS58.set_0 | apply IsS58.set_1 | refine IsS58.far ?_ NB396_391.out _ | refine IsS58.far ?_ NB396_392.out _) | exact HI396.out)) hb); have n3_ := Aside0.mk (below_step (by repeat (first | (with_reducible first | exact HB.out | apply below_alloc | apply pw_below_drewN | apply below_drew1 | refine below_set ?_ (IsS58.ge HI396.out) | refine below_set ?_ GE391.out | refine below_set ?_ GE392.out) | exact HB.out)) hb); clear BK391; clear BK392; clear HI396; clear HB; have BK391 := n0_; have BK392 := n1_; have HI396 := n2_; have HB := n3_; clear n0_ n1_ n2_ n3_; (try clear hb); (try clear hb2); (try clear hk); (try clear hi)))
  go_loopg [7] k (fun kq v7 w' => ∃ (x7_1 : Int) (x397000_1 : ByteArray) (x397001_1 : Int), v7 = .int .i64 x7_1 ∧ Aside0 (bournelaw11_ScanCut.l0 kq t397 x7_1 a0_0 a0_1 a0_2 a0_3 a0_4 a1_0 a1_1 a1_2 a1_3 a1_4 x397000_1 x397001_1 = some r) ∧ Aside0 (kq ≤ k) ∧ Aside0 (w'.heap[gb391]? = some (.cells #[.int .i64 a0_0, .int .i64 a0_1, .int .i64 a0_2, .int .i64 a0_3, .int .i64 a0_4] 49 (0, 0))) ∧ Aside0 (w'.heap[gb392]? = some (.cells #[.int .i64 a1_0, .int .i64 a1_1, .int .i64 a1_2, .int .i64 a1_3, .int .i64 a1_4] 49 (0, 0))) ∧ Aside0 (IsS58 w w' g396 x397000_1 x397001_1) ∧ Aside0 (Below w.heap.size w w'))
  case atStart => exact ⟨(0), (t394), (t395), (by first | rfl | (simp; done) | (simp [*]; done)), H', ⟨Nat.le_refl _⟩, ⟨by (with_reducible repeat (first | refine blk_drewN ?_ _ | refine blk_drew ?_ | refine blk_alloc ?_ _)); exact BK391.out⟩, ⟨by (with_reducible repeat (first | refine blk_drewN ?_ _ | refine blk_drew ?_ | refine blk_alloc ?_ _)); exact BK392.out⟩, ⟨by repeat (first | (with_reducible first | exact HI396.out | apply IsS58.alloc | apply IsS58.drewN | apply IsS58.drew | apply IsS58.set_0 | apply IsS58.set_1 | refine IsS58.far ?_ NB396_391.out _ | refine IsS58.far ?_ NB396_392.out _) | exact HI396.out)⟩, ⟨by repeat (first | (with_reducible first | exact HB.out | apply below_alloc | apply pw_below_drewN | apply below_drew1 | refine below_set ?_ (IsS58.ge HI396.out) | refine below_set ?_ GE391.out | refine below_set ?_ GE392.out) | exact HB.out)⟩⟩
  case round =>
   clear H'
   try clear c1
   try clear c2
   try clear p2
   try clear c4
   try clear c8
   try clear c9
   try clear c11
   try clear c12
   try clear hcz13_0
   try clear hcz13_1
   try clear hcz13_2
   try clear hcz13_3
   try clear hcz13_4
   try clear hfz13_0
   try clear hfz13_1
   try clear hfz13_2
   try clear hfz13_3
   try clear hfz13_4
   obtain ⟨x7_1, x397000_1, x397001_1, rfl, HA, HK1, BK391, BK392, HI396, HB⟩ := hrel
   cases gk with
   | zero => exact absurd HA.out (by simp [bournelaw11_ScanCut.l0])
    | succ k1 =>
    have H := HA.out
    clear HA
    simp only [bournelaw11_ScanCut.l0] at H
    by_cases c15 : x7_1 < (t397.size : Int)
    ·rw [if_pos c15] at H
     have c15b0 : decide (x7_1 < (t397.size : Int)) = true := decide_eq_true c15
     clear c15
     by_cases c16 : 0 ≤ x7_1
     ·rw [if_pos c16] at H
      have c16b0 := eq_true c16
      have c16b1 : decide (0 ≤ x7_1) = true := decide_eq_true c16
      clear c16
      by_cases c17 : x7_1 ≤ (wrap64 (x7_1 + 1))
      ·rw [if_pos c17] at H
       have c17b0 := eq_true c17
       have c17b1 : decide (x7_1 ≤ (wrap64 (x7_1 + 1))) = true := decide_eq_true c17
       by_cases c18 : (wrap64 (x7_1 + 1)) ≤ (t397.size : Int)
       ·rw [if_pos c18] at H
        have c18b0 := eq_true c18
        have c18b1 : decide ((wrap64 (x7_1 + 1)) ≤ (t397.size : Int)) = true := decide_eq_true c18
        replace H := Option.bind_eq_some_iff.mp H
        obtain ⟨⟨t398, t401, t402⟩, A190, H⟩ := H
        try dsimp only at H
        have A19 := Aside0.mk A190
        clear A190
        have HC20 := Aside0.mk H
        clear H
        go_upto_region 11 with (first | ((with_reducible refine gate_callee (f := 13) rfl ?_); refine goesL_ (some 33) rfl rfl Try.func13 (by kernel_rfl) rfl #[.pointer (some ⟨g396, 0, none⟩), .string (t397.extract (x7_1 : Int).toNat ((wrap64 (x7_1 + 1)) : Int).toNat)] rfl (by (try simp only [List.map_toArray, List.map_cons, List.map_nil]); first | done | rfl | (simp only [List.length_drop, List.length_take]; rfl)) ?_; (with_reducible refine (scan_Scanner_Write.calls k1 g396 x397000_1 x397001_1 (t397.extract (x7_1 : Int).toNat ((wrap64 (x7_1 + 1)) : Int).toNat) t398 t401 t402 w _ ?side1 ?side2 A19.out).mono ?_); (case side1 => repeat (first | (with_reducible first | exact HI396.out | apply IsS58.alloc | apply IsS58.drewN | apply IsS58.drew | apply IsS58.set_0 | apply IsS58.set_1 | refine IsS58.far ?_ NB396_391.out _ | refine IsS58.far ?_ NB396_392.out _) | exact HI396.out)); (case side2 => repeat (first | (with_reducible first | exact HB.out | apply below_alloc | apply pw_below_drewN | apply below_drew1 | refine below_set ?_ (IsS58.ge HI396.out) | refine below_set ?_ GE391.out | refine below_set ?_ GE392.out) | exact HB.out)); rintro e w21 ⟨v399, rfl, ho0, hi, hb, hk⟩; refine ⟨_, rfl, ?_⟩; have n0_ := Aside0.mk (KeepBut.blk hk (g' := gb391) (o := .cells #[.int .i64 a0_0, .int .i64 a0_1, .int .i64 a0_2, .int .i64 a0_3, .int .i64 a0_4] 49 (0, 0)) (by (with_reducible repeat (first | refine blk_drewN ?_ _ | refine blk_drew ?_ | refine blk_alloc ?_ _)); exact BK391.out) NB391_396.out (by simp)); have n1_ := Aside0.mk (KeepBut.blk hk (g' := gb392) (o := .cells #[.int .i64 a1_0, .int .i64 a1_1, .int .i64 a1_2, .int .i64 a1_3, .int .i64 a1_4] 49 (0, 0)) (by (with_reducible repeat (first | refine blk_drewN ?_ _ | refine blk_drew ?_ | refine blk_alloc ?_ _)); exact BK392.out) NB392_396.out (by simp)); have n2_ := Aside0.mk (Kd.R_lower (Kd.R_newB (Kd.R_newB ho0 (g := gb391) (o := .cells #[.int .i64 a0_0, .int .i64 a0_1, .int .i64 a0_2, .int .i64 a0_3, .int .i64 a0_4] 49 (0, 0)) (by (with_reducible repeat (first | refine blk_drewN ?_ _ | refine blk_drew ?_ | refine blk_alloc ?_ _)); exact BK391.out)) (g := gb392) (o := .cells #[.int .i64 a1_0, .int .i64 a1_1, .int .i64 a1_2, .int .i64 a1_3, .int .i64 a1_4] 49 (0, 0)) (by (with_reducible repeat (first | refine blk_drewN ?_ _ | refine blk_drew ?_ | refine blk_alloc ?_ _)); exact BK392.out)) (below_size (by repeat (first | (with_reducible first | exact HB.out | apply below_alloc | apply pw_below_drewN | apply below_drew1 | refine below_set ?_ (IsS58.ge HI396.out) | refine below_set ?_ GE391.out | refine below_set ?_ GE392.out) | exact HB.out)))); have n3_ := Aside0.mk (hb); have n4_ := Aside0.mk (hi); clear BK391; clear BK392; clear HB; clear HI396; have BK391 := n0_; have BK392 := n1_; have HO400 := n2_; have HB := n3_; have HI396 := n4_; clear n0_ n1_ n2_ n3_ n4_; (try clear hb); (try clear hb2); (try clear hk); (try clear hi); (try clear ho0)))
        (try simp only [Act.put, sA,sZ,sS])
        go_cut [57] (fun v57 wc => ∃ (kq : Nat) (x57_19 : Bool) (x397000_19 : ByteArray) (x397001_19 : Int), v57 = .bool x57_19 ∧ Aside0 (bournelaw11_ScanCut.j1 kq t397 x7_1 t398 x57_19 a0_0 a0_1 a0_2 a0_3 a0_4 a1_0 a1_1 a1_2 a1_3 a1_4 x397000_19 x397001_19 = some r) ∧ Aside0 (kq ≤ k1) ∧ Aside0 (Kd.R k49 49 wc w.heap.size (fun k_ => k_ ≠ gb391 ∧ k_ ≠ gb392) v399 t398) ∧ Aside0 (wc.heap[gb391]? = some (.cells #[.int .i64 a0_0, .int .i64 a0_1, .int .i64 a0_2, .int .i64 a0_3, .int .i64 a0_4] 49 (0, 0))) ∧ Aside0 (wc.heap[gb392]? = some (.cells #[.int .i64 a1_0, .int .i64 a1_1, .int .i64 a1_2, .int .i64 a1_3, .int .i64 a1_4] 49 (0, 0))) ∧ Aside0 (IsS58 w wc g396 x397000_19 x397001_19) ∧ Aside0 (Below w.heap.size w wc))
        case first =>
         have H := HC20.out
         clear HC20
         by_cases c22 : x7_1 < (wrap64 ((t397.size : Int) - 1))
         ·rw [if_pos c22] at H
          have c22b0 : decide (x7_1 < (wrap64 ((t397.size : Int) - 1))) = true := decide_eq_true c22
          clear c22
          (first | rw [c22b0] | (simp only [i64_w, i32_w]; rw [c22b0]) | skip)
          by_cases c23 : (t398.length : Int) = 0
          ·rw [if_pos c23] at H
           have c23b0 : ((t398.length : Int) == 0) = true := beq_iff_eq.mpr c23
           have c23b1 : ((t398.length : Int) != 0) = false := bne_eq_false_iff_eq.mpr c23
           clear c23
           replace H := Option.bind_eq_some_iff.mp H
           obtain ⟨⟨t403, t404, t405⟩, A240, H⟩ := H
           try dsimp only at H
           have A24 := Aside0.mk A240
           clear A240
           obtain ⟨ji25, hji25⟩ : ∃ j_ : Int, (wrap64 (x7_1 + 1)) = j_ := ⟨_, rfl⟩
           replace H : (if 0 ≤ (ji25) then (if t403.toList = (t397.extract 0 ((ji25) : Int).toNat).toList then ((scan_Scanner_Bad.f t404 t405).bind fun bt406 => (bournelaw11_ScanCut.j1 k1 t397 x7_1 t398 (bt406.1 != 0) a0_0 a0_1 a0_2 a0_3 a0_4 a1_0 a1_1 a1_2 a1_3 a1_4 bt406.2.1 bt406.2.2)) else (bournelaw11_ScanCut.j1 k1 t397 x7_1 t398 true a0_0 a0_1 a0_2 a0_3 a0_4 a1_0 a1_1 a1_2 a1_3 a1_4 t404 t405)) else (none)) = some r := by first | (rw [hji25] at H; exact H) | (simp only [hji25] at H ⊢; exact H)
           (try rw [hji25] at c17b0)
           (try rw [hji25] at c17b1)
           (try rw [hji25] at c17)
           (try rw [hji25] at c18b0)
           (try rw [hji25] at c18b1)
           (try rw [hji25] at c18)
           (try rw [hji25] at A24)
           have hji25w : (IntKind.i64.wrap (x7_1 + 1)) = ji25 := (i64_w _).trans hji25
           by_cases c26 : 0 ≤ (ji25)
           ·rw [if_pos c26] at H
            have c26b0 := eq_true c26
            have c26b1 : decide (0 ≤ (ji25)) = true := decide_eq_true c26
            clear c26
            have c27b0 := eq_true (of_decide_eq_true (by first | (with_reducible assumption) | assumption) : (ji25) ≤ (t397.size : Int))
            by_cases c28 : t403.toList = (t397.extract 0 ((ji25) : Int).toNat).toList
            ·rw [if_pos c28] at H
             have c28b0 : (t403.toList == (t397.extract 0 ((ji25) : Int).toNat).toList) = true := beq_iff_eq.mpr c28
             have c28b1 : (t403.toList != (t397.extract 0 ((ji25) : Int).toNat).toList) = false := bne_eq_false_iff_eq.mpr c28
             clear c28
             replace H := Option.bind_eq_some_iff.mp H
             obtain ⟨⟨t406, t407, t408⟩, A290, H⟩ := H
             replace H : (bournelaw11_ScanCut.j1 k1 t397 x7_1 t398 (t406 != 0) a0_0 a0_1 a0_2 a0_3 a0_4 a1_0 a1_1 a1_2 a1_3 a1_4 t407 t408) = some r := H
             have A29 := Aside0.mk A290
             clear A290
             have H' := Aside0.mk H
             clear H
             try go_wp2
             have n0_ := Aside0.mk (Kd.R_drew HO400.out)
             have n1_ := Aside0.mk (blk_drew BK391.out)
             have n2_ := Aside0.mk (blk_drew BK392.out)
             have n3_ := Aside0.mk (IsS58.drew HI396.out)
             have n4_ := Aside0.mk (below_drew1 HB.out)
             clear HO400
             clear BK391
             clear BK392
             clear HI396
             clear HB
             have HO400 := n0_
             have BK391 := n1_
             have BK392 := n2_
             have HI396 := n3_
             have HB := n4_
             clear n0_ n1_ n2_ n3_ n4_
             obtain ⟨Ao31, co31, eo31⟩ := Kd.R_slice HO400.out
             (first | subst eo31 | (injection eo31 with f1_ f2_ f3_; have f4_ := f1_.symm; have f5_ := f3_.symm; clear f1_ f2_ f3_; subst f4_; subst f5_))
             refine start_ (n := 24) (S := fun w' => True) (ds := []) #[V,V,V,V,V,V,V,V,V,V,V,V,V,V,V,V,V,V,V,V,V,V,V,V] (by kernel_rfl) rfl rfl trivial (fun hHeld => ?_); refine with_tabW bournelaw11_ScanCut.tab11 bournelaw11_ScanCut.bits11 (fun HT_ HW_ => ?_)
             generalize w21.drew = w30 at HO400 BK391 BK392 HI396 HB hHeld ⊢
             refine pure_ (i := 0) (N := some 34) (v := ?_) (a' := ?_) #[U,V,V,V,V,V,V,V,V,V,V,V,V,V,V,V,V,V,V,V,V,V,V,V] rfl rfl (any_of HT_.out (by kernel_rfl)) (fun _ _ _ h => h) (Or.inl ⟨by rfl, ?_⟩) ?_ ?_; rotate_left; (· intro w'; go_simp; with_reducible rfl); rotate_left; (· simp only [Act.put, sA,sZ,sS, i64_w, i32_w]; rfl); refine pure_ (i := 1) (N := some 35) (v := ?_) (a' := ?_) #[U,U,V,V,V,V,V,V,V,V,V,V,V,V,V,V,V,V,V,V,V,V,V,V] rfl rfl (any_of HT_.out (by kernel_rfl)) (fun _ _ _ h => h) (Or.inl ⟨by rfl, ?_⟩) ?_ ?_; rotate_left; (· intro w'; go_simp; with_reducible rfl); rotate_left; (· simp only [Act.put, sA,sZ,sS, i64_w, i32_w]; rfl); refine pure_ (i := 2) (N := some 36) (v := ?_) (a' := ?_) #[U,U,U,V,V,V,V,V,V,V,V,V,V,V,V,V,V,V,V,V,V,V,V,V] rfl rfl (any_of HT_.out (by kernel_rfl)) (fun _ _ _ h => h) (Or.inl ⟨by rfl, ?_⟩) ?_ ?_; rotate_left; (· intro w'; go_simp; with_reducible rfl); rotate_left; (· simp only [Act.put, sA,sZ,sS, i64_w, i32_w]; rfl); refine pure_ (i := 3) (N := some 37) (v := ?_) (a' := ?_) #[U,U,U,U,V,V,V,V,V,V,V,V,V,V,V,V,V,V,V,V,V,V,V,V] rfl rfl (any_of HT_.out (by kernel_rfl)) (fun _ _ _ h => h) (Or.inl ⟨by rfl, ?_⟩) ?_ ?_; rotate_left; (· intro w'; go_simp; with_reducible rfl); rotate_left; (· simp only [Act.put, sA,sZ,sS, i64_w, i32_w]; rfl); refine pure_ (i := 4) (N := some 38) (v := ?_) (a' := ?_) #[U,U,U,U,U,V,V,V,V,V,V,V,V,V,V,V,V,V,V,V,V,V,V,V] rfl rfl (any_of HT_.out (by kernel_rfl)) (fun _ _ _ h => h) (Or.inl ⟨by rfl, ?_⟩) ?_ ?_; rotate_left; (· intro w'; go_simp; with_reducible rfl); rotate_left; (· simp only [Act.put, sA,sZ,sS, i64_w, i32_w]; rfl); refine pure_ (i := 5) (N := some 39) (v := ?_) (a' := ?_) #[U,U,U,U,U,U,V,V,V,V,V,V,V,V,V,V,V,V,V,V,V,V,V,V] rfl rfl (any_of HT_.out (by kernel_rfl)) (fun _ _ _ h => h) (Or.inl ⟨by rfl, ?_⟩) ?_ ?_; rotate_left; (· intro w'; go_simp; with_reducible rfl); rotate_left; (· simp only [Act.put, sA,sZ,sS, i64_w, i32_w]; rfl); refine pure_ (i := 6) (N := some 40) (v := ?_) (a' := ?_) #[U,U,U,U,U,U,U,V,V,V,V,V,V,V,V,V,V,V,V,V,V,V,V,V] rfl rfl (any_of HT_.out (by kernel_rfl)) (fun _ _ _ h => h) (Or.inl ⟨by rfl, ?_⟩) ?_ ?_; rotate_left; (· intro w'; go_simp; with_reducible rfl); rotate_left; (· simp only [Act.put, sA,sZ,sS, i64_w, i32_w]; rfl); refine pure_ (i := 7) (N := some 41) (v := ?_) (a' := ?_) #[U,U,U,U,U,U,U,U,V,V,V,V,V,V,V,V,V,V,V,V,V,V,V,V] rfl rfl (any_of HT_.out (by kernel_rfl)) (fun _ _ _ h => h) (Or.inl ⟨by rfl, ?_⟩) ?_ ?_; rotate_left; (· intro w'; go_simp; with_reducible rfl); rotate_left; (· simp only [Act.put, sA,sZ,sS, i64_w, i32_w]; rfl); refine pure_ (i := 8) (N := some 42) (v := ?_) (a' := ?_) #[U,U,U,U,U,U,U,U,U,V,V,V,V,V,V,V,V,V,V,V,V,V,V,V] rfl rfl (any_of HT_.out (by kernel_rfl)) (fun _ _ _ h => h) (Or.inl ⟨by rfl, ?_⟩) ?_ ?_; rotate_left; (· intro w'; go_simp; with_reducible rfl); rotate_left; (· simp only [Act.put, sA,sZ,sS, i64_w, i32_w]; rfl); refine pure_ (i := 9) (N := some 43) (v := ?_) (a' := ?_) #[U,U,U,U,U,U,U,U,U,U,V,V,V,V,V,V,V,V,V,V,V,V,V,V] rfl rfl (any_of HT_.out (by kernel_rfl)) (fun _ _ _ h => h) (Or.inl ⟨by rfl, ?_⟩) ?_ ?_; rotate_left; (· intro w'; go_simp; with_reducible rfl); rotate_left; (· simp only [Act.put, sA,sZ,sS, i64_w, i32_w]; rfl); refine pure_ (i := 10) (N := some 44) (v := ?_) (a' := ?_) #[U,U,U,U,U,U,U,U,U,U,U,V,V,V,V,V,V,V,V,V,V,V,V,V] rfl rfl (any_of HT_.out (by kernel_rfl)) (fun _ _ _ h => h) (Or.inl ⟨by rfl, ?_⟩) ?_ ?_; rotate_left; (· intro w'; go_simp; with_reducible rfl); rotate_left; (· simp only [Act.put, sA,sZ,sS, i64_w, i32_w]; rfl); refine pure_ (i := 12) (N := some 46) (v := ?_) (a' := ?_) #[U,U,U,U,U,U,U,U,U,U,U,V,U,V,V,V,V,V,V,V,V,V,V,V] rfl rfl (any_of HT_.out (by kernel_rfl)) (fun _ _ _ h => h) (Or.inl ⟨by rfl, ?_⟩) ?_ ?_; rotate_left; (· intro w'; go_simp; with_reducible rfl); rotate_left; (· simp only [Act.put, sA,sZ,sS, i64_w, i32_w]; rfl); refine pure_ (i := 13) (N := some 47) (v := ?_) (a' := ?_) #[U,U,U,U,U,U,U,U,U,U,U,V,U,U,V,V,V,V,V,V,V,V,V,V] rfl rfl (any_of HT_.out (by kernel_rfl)) (fun _ _ _ h => h) (Or.inl ⟨by rfl, ?_⟩) ?_ ?_; rotate_left; (· intro w'; go_simp; with_reducible rfl); rotate_left; (· simp only [Act.put, sA,sZ,sS, i64_w, i32_w]; rfl); refine pure_ (i := 14) (N := some 48) (v := ?_) (a' := ?_) #[U,U,U,U,U,U,U,U,U,U,U,V,U,U,U,V,V,V,V,V,V,V,V,V] rfl rfl (any_of HT_.out (by kernel_rfl)) (fun _ _ _ h => h) (Or.inl ⟨by rfl, ?_⟩) ?_ ?_; rotate_left; (· intro w'; go_simp; with_reducible rfl); rotate_left; (· simp only [Act.put, sA,sZ,sS, i64_w, i32_w]; rfl); refine pure_ (i := 15) (N := some 49) (v := ?_) (a' := ?_) #[U,U,U,U,U,U,U,U,U,U,U,V,U,U,U,U,V,V,V,V,V,V,V,V] rfl rfl (any_of HT_.out (by kernel_rfl)) (fun _ _ _ h => h) (Or.inl ⟨by rfl, ?_⟩) ?_ ?_; rotate_left; (· intro w'; go_simp; with_reducible rfl); rotate_left; (· simp only [Act.put, sA,sZ,sS, i64_w, i32_w]; rfl)
             refine one_ (i := 11) (N := some 45) #[U,U,U,U,U,U,U,U,U,U,U,U,U,U,U,U,V,V,V,V,V,V,V,V] rfl rfl (one_of HT_.out (by kernel_rfl)) (by decide) (fun K hK => ?_)
             refine goes_ Try.func16 (by kernel_rfl) rfl #[.pointer (some ⟨g396, 0, none⟩)] (by rfl) rfl rfl (by (try simp only [List.map_toArray, List.map_cons, List.map_nil]); first | done | rfl | (simp only [List.length_drop, List.length_take]; rfl)) ?_
             with_reducible refine (scan_Scanner_Waits.calls g396 t401 t402 t403 t404 t405 w _ ?side1 ?side2 A24.out).mono ?_
             (case side1 => repeat (first | (with_reducible first | exact HI396.out | apply IsS58.alloc | apply IsS58.drewN | apply IsS58.drew | apply IsS58.set_0 | apply IsS58.set_1 | refine IsS58.far ?_ NB396_391.out _ | refine IsS58.far ?_ NB396_392.out _) | exact HI396.out))
             (case side2 => repeat (first | (with_reducible first | exact HB.out | apply below_alloc | apply pw_below_drewN | apply below_drew1 | refine below_set ?_ (IsS58.ge HI396.out) | refine below_set ?_ GE391.out | refine below_set ?_ GE392.out) | exact HB.out))
             rintro e w32 ⟨rfl, hi, hb, hk⟩
             refine ⟨_, rfl, ?_⟩
             have n0_ := Aside0.mk (KeepBut.blk hk (g' := gb391) (o := .cells #[.int .i64 a0_0, .int .i64 a0_1, .int .i64 a0_2, .int .i64 a0_3, .int .i64 a0_4] 49 (0, 0)) (by (with_reducible repeat (first | refine blk_drewN ?_ _ | refine blk_drew ?_ | refine blk_alloc ?_ _)); exact BK391.out) NB391_396.out (by simp))
             have n1_ := Aside0.mk (KeepBut.blk hk (g' := gb392) (o := .cells #[.int .i64 a1_0, .int .i64 a1_1, .int .i64 a1_2, .int .i64 a1_3, .int .i64 a1_4] 49 (0, 0)) (by (with_reducible repeat (first | refine blk_drewN ?_ _ | refine blk_drew ?_ | refine blk_alloc ?_ _)); exact BK392.out) NB392_396.out (by simp))
             have n2_ := Aside0.mk (Kd.R_mono (Kd.R_keep (IsS58.apart (show IsS58 w _ g396 t401 t402 from by repeat (first | (with_reducible first | exact HI396.out | apply IsS58.alloc | apply IsS58.drewN | apply IsS58.drew | apply IsS58.set_0 | apply IsS58.set_1 | refine IsS58.far ?_ NB396_391.out _ | refine IsS58.far ?_ NB396_392.out _) | exact HI396.out)) (by (with_reducible repeat (first | apply Kd.R_alloc | apply Kd.R_drewN | apply Kd.R_drew)); exact HO400.out) (by decide)) hk (fun _ h => h.2)) (fun _ h => h.1))
             have n3_ := Aside0.mk (hb)
             have n4_ := Aside0.mk (hi)
             clear BK391
             clear BK392
             clear HO400
             clear HB
             clear HI396
             have BK391 := n0_
             have BK392 := n1_
             have HO400 := n2_
             have HB := n3_
             have HI396 := n4_
             clear n0_ n1_ n2_ n3_ n4_
             (try clear hb)
             (try clear hb2)
             (try clear hk)
             (try clear hi)
             refine hK.out _ _ trivial (fun hHeld => ?_)
             clear hK K
             refine norm_ (a' := ?_) ?_ ?_
             rotate_left
             ·show Act.put _ (some 45) _ = _
              simp only [Act.put, sA,sZ,sS, i64_w, i32_w]
              rfl
             refine pure_ (i := 16) (N := some 50) (v := ?_) (a' := ?_) #[U,U,U,U,U,U,U,U,U,U,U,U,U,U,U,U,U,V,V,V,V,V,V,V] rfl rfl (any_of HT_.out (by kernel_rfl)) (fun _ _ _ h => h) (Or.inl ⟨by rfl, ?_⟩) ?_ ?_; rotate_left; (· intro w'; go_simp; with_reducible rfl); rotate_left; (· simp only [Act.put, sA,sZ,sS, i64_w, i32_w]; rfl); refine pure_ (i := 17) (N := some 51) (v := ?_) (a' := ?_) #[U,U,U,U,U,U,U,U,U,U,U,U,U,U,U,U,U,U,V,V,V,V,V,V] rfl rfl (any_of HT_.out (by kernel_rfl)) (fun _ _ _ h => h) (Or.inl ⟨by rfl, ?_⟩) ?_ ?_; rotate_left; (· intro w'; go_simp; with_reducible rfl); rotate_left; (· simp only [Act.put, sA,sZ,sS, i64_w, i32_w]; rfl); refine pure_ (i := 18) (N := some 52) (v := ?_) (a' := ?_) #[U,U,U,U,U,U,U,U,U,U,U,U,U,U,U,U,U,U,U,V,V,V,V,V] rfl rfl (any_of HT_.out (by kernel_rfl)) (fun _ _ _ h => h) (Or.inl ⟨by rfl, ?_⟩) ?_ ?_; rotate_left; (· intro w'; go_simp; with_reducible rfl); rotate_left; (· simp only [Act.put, sA,sZ,sS, i64_w, i32_w]; rfl); refine pure_ (i := 19) (N := some 53) (v := ?_) (a' := ?_) #[U,U,U,U,U,U,U,U,U,U,U,U,U,U,U,U,U,U,U,U,V,V,V,V] rfl rfl (any_of HT_.out (by kernel_rfl)) (fun _ _ _ h => h) (Or.inl ⟨by rfl, ?_⟩) ?_ ?_; rotate_left; (· intro w'; go_simp; with_reducible rfl); rotate_left; (· simp only [Act.put, sA,sZ,sS, i64_w, i32_w]; rfl)
             refine one_ (i := 20) (N := some 54) #[U,U,U,U,U,U,U,U,U,U,U,U,U,U,U,U,U,U,U,U,U,V,V,V] rfl rfl (one_of HT_.out (by kernel_rfl)) (by decide) (fun K hK => ?_)
             refine goes_ Try.func17 (by kernel_rfl) rfl #[.pointer (some ⟨g396, 0, none⟩)] (by rfl) rfl rfl (by (try simp only [List.map_toArray, List.map_cons, List.map_nil]); first | done | rfl | (simp only [List.length_drop, List.length_take]; rfl)) ?_
             with_reducible refine (scan_Scanner_Bad.calls g396 t404 t405 t406 t407 t408 w _ ?side1 ?side2 A29.out).mono ?_
             (case side1 => repeat (first | (with_reducible first | exact HI396.out | apply IsS58.alloc | apply IsS58.drewN | apply IsS58.drew | apply IsS58.set_0 | apply IsS58.set_1 | refine IsS58.far ?_ NB396_391.out _ | refine IsS58.far ?_ NB396_392.out _) | exact HI396.out))
             (case side2 => repeat (first | (with_reducible first | exact HB.out | apply below_alloc | apply pw_below_drewN | apply below_drew1 | refine below_set ?_ (IsS58.ge HI396.out) | refine below_set ?_ GE391.out | refine below_set ?_ GE392.out) | exact HB.out))
             rintro e w33 ⟨rfl, hi, hb, hk⟩
             refine ⟨_, rfl, ?_⟩
             have n0_ := Aside0.mk (KeepBut.blk hk (g' := gb391) (o := .cells #[.int .i64 a0_0, .int .i64 a0_1, .int .i64 a0_2, .int .i64 a0_3, .int .i64 a0_4] 49 (0, 0)) (by (with_reducible repeat (first | refine blk_drewN ?_ _ | refine blk_drew ?_ | refine blk_alloc ?_ _)); exact BK391.out) NB391_396.out (by simp))
             have n1_ := Aside0.mk (KeepBut.blk hk (g' := gb392) (o := .cells #[.int .i64 a1_0, .int .i64 a1_1, .int .i64 a1_2, .int .i64 a1_3, .int .i64 a1_4] 49 (0, 0)) (by (with_reducible repeat (first | refine blk_drewN ?_ _ | refine blk_drew ?_ | refine blk_alloc ?_ _)); exact BK392.out) NB392_396.out (by simp))
             have n2_ := Aside0.mk (Kd.R_mono (Kd.R_keep (IsS58.apart (show IsS58 w _ g396 t404 t405 from by repeat (first | (with_reducible first | exact HI396.out | apply IsS58.alloc | apply IsS58.drewN | apply IsS58.drew | apply IsS58.set_0 | apply IsS58.set_1 | refine IsS58.far ?_ NB396_391.out _ | refine IsS58.far ?_ NB396_392.out _) | exact HI396.out)) (by (with_reducible repeat (first | apply Kd.R_alloc | apply Kd.R_drewN | apply Kd.R_drew)); exact HO400.out) (by decide)) hk (fun _ h => h.2)) (fun _ h => h.1))
             have n3_ := Aside0.mk (hb)
             have n4_ := Aside0.mk (hi)
             clear BK391
             clear BK392
             clear HO400
             clear HB
             clear HI396
             have BK391 := n0_
             have BK392 := n1_
             have HO400 := n2_
             have HB := n3_
             have HI396 := n4_
             clear n0_ n1_ n2_ n3_ n4_
             (try clear hb)
             (try clear hb2)
             (try clear hk)
             (try clear hi)
             refine hK.out _ _ trivial (fun hHeld => ?_)
             clear hK K
             refine norm_ (a' := ?_) ?_ ?_
             rotate_left
             ·show Act.put _ (some 54) _ = _
              simp only [Act.put, sA,sZ,sS, i64_w, i32_w]
              rfl
             refine pure_ (i := 21) (N := some 55) (v := ?_) (a' := ?_) #[U,U,U,U,U,U,U,U,U,U,U,U,U,U,U,U,U,U,U,U,U,U,V,V] rfl rfl (any_of HT_.out (by kernel_rfl)) (fun _ _ _ h => h) (Or.inl ⟨by rfl, ?_⟩) ?_ ?_; rotate_left; (· intro w'; go_simp; with_reducible rfl); rotate_left; (· simp only [Act.put, sA,sZ,sS, i64_w, i32_w]; rfl); refine pure_ (i := 22) (N := some 56) (v := ?_) (a' := ?_) #[U,U,U,U,U,U,U,U,U,U,U,U,U,U,U,U,U,U,U,U,U,U,U,V] rfl rfl (any_of HT_.out (by kernel_rfl)) (fun _ _ _ h => h) (Or.inl ⟨by rfl, ?_⟩) ?_ ?_; rotate_left; (· intro w'; go_simp; with_reducible rfl); rotate_left; (· simp only [Act.put, sA,sZ,sS, i64_w, i32_w]; rfl); refine pure_ (i := 23) (N := some 57) (v := ?_) (a' := ?_) #[U,U,U,U,U,U,U,U,U,U,U,U,U,U,U,U,U,U,U,U,U,U,U,U] rfl rfl (any_of HT_.out (by kernel_rfl)) (fun _ _ _ h => h) (Or.inl ⟨by rfl, ?_⟩) ?_ ?_; rotate_left; (· intro w'; go_simp; with_reducible rfl); rotate_left; (· simp only [Act.put, sA,sZ,sS, i64_w, i32_w]; rfl)
             refine done_ (done_of HT_.out (by kernel_rfl)) ?_
             try go_wp2
             go_meet
             case rel => exact ⟨_, ((t406 != 0)), (t407), (t408), (by first | rfl | (simp; done) | (simp [*]; done)), H', ⟨by have := HK1.out; first | omega | exact Nat.le_refl _⟩, ⟨by (with_reducible repeat (first | apply Kd.R_alloc | apply Kd.R_drewN | apply Kd.R_drew)); exact Kd.R_mono HO400.out (fun _ hk => ⟨hk.1.2, hk.2⟩)⟩, ⟨by (with_reducible repeat (first | refine blk_drewN ?_ _ | refine blk_drew ?_ | refine blk_alloc ?_ _)); exact BK391.out⟩, ⟨by (with_reducible repeat (first | refine blk_drewN ?_ _ | refine blk_drew ?_ | refine blk_alloc ?_ _)); exact BK392.out⟩, ⟨by repeat (first | (with_reducible first | exact HI396.out | apply IsS58.alloc | apply IsS58.drewN | apply IsS58.drew | apply IsS58.set_0 | apply IsS58.set_1 | refine IsS58.far ?_ NB396_391.out _ | refine IsS58.far ?_ NB396_392.out _) | exact HI396.out)⟩, ⟨by repeat (first | (with_reducible first | exact HB.out | apply below_alloc | apply pw_below_drewN | apply below_drew1 | refine below_set ?_ (IsS58.ge HI396.out) | refine below_set ?_ GE391.out | refine below_set ?_ GE392.out) | exact HB.out)⟩⟩
            ·rw [if_neg c28] at H
             have c28b0 : (t403.toList == (t397.extract 0 ((ji25) : Int).toNat).toList) = false := beq_eq_false_iff_ne.mpr c28
             have c28b1 : (t403.toList != (t397.extract 0 ((ji25) : Int).toNat).toList) = true := bne_iff_ne.mpr c28
             have H' := Aside0.mk H
             clear H
             try go_wp2
             have n0_ := Aside0.mk (Kd.R_drew HO400.out)
             have n1_ := Aside0.mk (blk_drew BK391.out)
             have n2_ := Aside0.mk (blk_drew BK392.out)
             have n3_ := Aside0.mk (IsS58.drew HI396.out)
             have n4_ := Aside0.mk (below_drew1 HB.out)
             clear HO400
             clear BK391
             clear BK392
             clear HI396
             clear HB
             have HO400 := n0_
             have BK391 := n1_
             have BK392 := n2_
             have HI396 := n3_
             have HB := n4_
             clear n0_ n1_ n2_ n3_ n4_
             obtain ⟨Ao35, co35, eo35⟩ := Kd.R_slice HO400.out
             (first | subst eo35 | (injection eo35 with f1_ f2_ f3_; have f4_ := f1_.symm; have f5_ := f3_.symm; clear f1_ f2_ f3_; subst f4_; subst f5_))
             refine start_ (n := 24) (S := fun w' => True) (ds := []) #[V,V,V,V,V,V,V,V,V,V,V,V,V,V,V,V,V,V,V,V,V,V,V,V] (by kernel_rfl) rfl rfl trivial (fun hHeld => ?_); refine with_tabW bournelaw11_ScanCut.tab11 bournelaw11_ScanCut.bits11 (fun HT_ HW_ => ?_)
             generalize w21.drew = w34 at HO400 BK391 BK392 HI396 HB hHeld ⊢
             refine pure_ (i := 0) (N := some 34) (v := ?_) (a' := ?_) #[U,V,V,V,V,V,V,V,V,V,V,V,V,V,V,V,V,V,V,V,V,V,V,V] rfl rfl (any_of HT_.out (by kernel_rfl)) (fun _ _ _ h => h) (Or.inl ⟨by rfl, ?_⟩) ?_ ?_; rotate_left; (· intro w'; go_simp; with_reducible rfl); rotate_left; (· simp only [Act.put, sA,sZ,sS, i64_w, i32_w]; rfl); refine pure_ (i := 1) (N := some 35) (v := ?_) (a' := ?_) #[U,U,V,V,V,V,V,V,V,V,V,V,V,V,V,V,V,V,V,V,V,V,V,V] rfl rfl (any_of HT_.out (by kernel_rfl)) (fun _ _ _ h => h) (Or.inl ⟨by rfl, ?_⟩) ?_ ?_; rotate_left; (· intro w'; go_simp; with_reducible rfl); rotate_left; (· simp only [Act.put, sA,sZ,sS, i64_w, i32_w]; rfl); refine pure_ (i := 2) (N := some 36) (v := ?_) (a' := ?_) #[U,U,U,V,V,V,V,V,V,V,V,V,V,V,V,V,V,V,V,V,V,V,V,V] rfl rfl (any_of HT_.out (by kernel_rfl)) (fun _ _ _ h => h) (Or.inl ⟨by rfl, ?_⟩) ?_ ?_; rotate_left; (· intro w'; go_simp; with_reducible rfl); rotate_left; (· simp only [Act.put, sA,sZ,sS, i64_w, i32_w]; rfl); refine pure_ (i := 3) (N := some 37) (v := ?_) (a' := ?_) #[U,U,U,U,V,V,V,V,V,V,V,V,V,V,V,V,V,V,V,V,V,V,V,V] rfl rfl (any_of HT_.out (by kernel_rfl)) (fun _ _ _ h => h) (Or.inl ⟨by rfl, ?_⟩) ?_ ?_; rotate_left; (· intro w'; go_simp; with_reducible rfl); rotate_left; (· simp only [Act.put, sA,sZ,sS, i64_w, i32_w]; rfl); refine pure_ (i := 4) (N := some 38) (v := ?_) (a' := ?_) #[U,U,U,U,U,V,V,V,V,V,V,V,V,V,V,V,V,V,V,V,V,V,V,V] rfl rfl (any_of HT_.out (by kernel_rfl)) (fun _ _ _ h => h) (Or.inl ⟨by rfl, ?_⟩) ?_ ?_; rotate_left; (· intro w'; go_simp; with_reducible rfl); rotate_left; (· simp only [Act.put, sA,sZ,sS, i64_w, i32_w]; rfl); refine pure_ (i := 5) (N := some 39) (v := ?_) (a' := ?_) #[U,U,U,U,U,U,V,V,V,V,V,V,V,V,V,V,V,V,V,V,V,V,V,V] rfl rfl (any_of HT_.out (by kernel_rfl)) (fun _ _ _ h => h) (Or.inl ⟨by rfl, ?_⟩) ?_ ?_; rotate_left; (· intro w'; go_simp; with_reducible rfl); rotate_left; (· simp only [Act.put, sA,sZ,sS, i64_w, i32_w]; rfl); refine pure_ (i := 6) (N := some 40) (v := ?_) (a' := ?_) #[U,U,U,U,U,U,U,V,V,V,V,V,V,V,V,V,V,V,V,V,V,V,V,V] rfl rfl (any_of HT_.out (by kernel_rfl)) (fun _ _ _ h => h) (Or.inl ⟨by rfl, ?_⟩) ?_ ?_; rotate_left; (· intro w'; go_simp; with_reducible rfl); rotate_left; (· simp only [Act.put, sA,sZ,sS, i64_w, i32_w]; rfl); refine pure_ (i := 7) (N := some 41) (v := ?_) (a' := ?_) #[U,U,U,U,U,U,U,U,V,V,V,V,V,V,V,V,V,V,V,V,V,V,V,V] rfl rfl (any_of HT_.out (by kernel_rfl)) (fun _ _ _ h => h) (Or.inl ⟨by rfl, ?_⟩) ?_ ?_; rotate_left; (· intro w'; go_simp; with_reducible rfl); rotate_left; (· simp only [Act.put, sA,sZ,sS, i64_w, i32_w]; rfl); refine pure_ (i := 8) (N := some 42) (v := ?_) (a' := ?_) #[U,U,U,U,U,U,U,U,U,V,V,V,V,V,V,V,V,V,V,V,V,V,V,V] rfl rfl (any_of HT_.out (by kernel_rfl)) (fun _ _ _ h => h) (Or.inl ⟨by rfl, ?_⟩) ?_ ?_; rotate_left; (· intro w'; go_simp; with_reducible rfl); rotate_left; (· simp only [Act.put, sA,sZ,sS, i64_w, i32_w]; rfl); refine pure_ (i := 9) (N := some 43) (v := ?_) (a' := ?_) #[U,U,U,U,U,U,U,U,U,U,V,V,V,V,V,V,V,V,V,V,V,V,V,V] rfl rfl (any_of HT_.out (by kernel_rfl)) (fun _ _ _ h => h) (Or.inl ⟨by rfl, ?_⟩) ?_ ?_; rotate_left; (· intro w'; go_simp; with_reducible rfl); rotate_left; (· simp only [Act.put, sA,sZ,sS, i64_w, i32_w]; rfl); refine pure_ (i := 10) (N := some 44) (v := ?_) (a' := ?_) #[U,U,U,U,U,U,U,U,U,U,U,V,V,V,V,V,V,V,V,V,V,V,V,V] rfl rfl (any_of HT_.out (by kernel_rfl)) (fun _ _ _ h => h) (Or.inl ⟨by rfl, ?_⟩) ?_ ?_; rotate_left; (· intro w'; go_simp; with_reducible rfl); rotate_left; (· simp only [Act.put, sA,sZ,sS, i64_w, i32_w]; rfl); refine pure_ (i := 12) (N := some 46) (v := ?_) (a' := ?_) #[U,U,U,U,U,U,U,U,U,U,U,V,U,V,V,V,V,V,V,V,V,V,V,V] rfl rfl (any_of HT_.out (by kernel_rfl)) (fun _ _ _ h => h) (Or.inl ⟨by rfl, ?_⟩) ?_ ?_; rotate_left; (· intro w'; go_simp; with_reducible rfl); rotate_left; (· simp only [Act.put, sA,sZ,sS, i64_w, i32_w]; rfl); refine pure_ (i := 13) (N := some 47) (v := ?_) (a' := ?_) #[U,U,U,U,U,U,U,U,U,U,U,V,U,U,V,V,V,V,V,V,V,V,V,V] rfl rfl (any_of HT_.out (by kernel_rfl)) (fun _ _ _ h => h) (Or.inl ⟨by rfl, ?_⟩) ?_ ?_; rotate_left; (· intro w'; go_simp; with_reducible rfl); rotate_left; (· simp only [Act.put, sA,sZ,sS, i64_w, i32_w]; rfl); refine pure_ (i := 14) (N := some 48) (v := ?_) (a' := ?_) #[U,U,U,U,U,U,U,U,U,U,U,V,U,U,U,V,V,V,V,V,V,V,V,V] rfl rfl (any_of HT_.out (by kernel_rfl)) (fun _ _ _ h => h) (Or.inl ⟨by rfl, ?_⟩) ?_ ?_; rotate_left; (· intro w'; go_simp; with_reducible rfl); rotate_left; (· simp only [Act.put, sA,sZ,sS, i64_w, i32_w]; rfl); refine pure_ (i := 15) (N := some 49) (v := ?_) (a' := ?_) #[U,U,U,U,U,U,U,U,U,U,U,V,U,U,U,U,V,V,V,V,V,V,V,V] rfl rfl (any_of HT_.out (by kernel_rfl)) (fun _ _ _ h => h) (Or.inl ⟨by rfl, ?_⟩) ?_ ?_; rotate_left; (· intro w'; go_simp; with_reducible rfl); rotate_left; (· simp only [Act.put, sA,sZ,sS, i64_w, i32_w]; rfl)
             refine one_ (i := 11) (N := some 45) #[U,U,U,U,U,U,U,U,U,U,U,U,U,U,U,U,V,V,V,V,V,V,V,V] rfl rfl (one_of HT_.out (by kernel_rfl)) (by decide) (fun K hK => ?_)
             refine goes_ Try.func16 (by kernel_rfl) rfl #[.pointer (some ⟨g396, 0, none⟩)] (by rfl) rfl rfl (by (try simp only [List.map_toArray, List.map_cons, List.map_nil]); first | done | rfl | (simp only [List.length_drop, List.length_take]; rfl)) ?_
             with_reducible refine (scan_Scanner_Waits.calls g396 t401 t402 t403 t404 t405 w _ ?side1 ?side2 A24.out).mono ?_
             (case side1 => repeat (first | (with_reducible first | exact HI396.out | apply IsS58.alloc | apply IsS58.drewN | apply IsS58.drew | apply IsS58.set_0 | apply IsS58.set_1 | refine IsS58.far ?_ NB396_391.out _ | refine IsS58.far ?_ NB396_392.out _) | exact HI396.out))
             (case side2 => repeat (first | (with_reducible first | exact HB.out | apply below_alloc | apply pw_below_drewN | apply below_drew1 | refine below_set ?_ (IsS58.ge HI396.out) | refine below_set ?_ GE391.out | refine below_set ?_ GE392.out) | exact HB.out))
             rintro e w36 ⟨rfl, hi, hb, hk⟩
             refine ⟨_, rfl, ?_⟩
             have n0_ := Aside0.mk (KeepBut.blk hk (g' := gb391) (o := .cells #[.int .i64 a0_0, .int .i64 a0_1, .int .i64 a0_2, .int .i64 a0_3, .int .i64 a0_4] 49 (0, 0)) (by (with_reducible repeat (first | refine blk_drewN ?_ _ | refine blk_drew ?_ | refine blk_alloc ?_ _)); exact BK391.out) NB391_396.out (by simp))
             have n1_ := Aside0.mk (KeepBut.blk hk (g' := gb392) (o := .cells #[.int .i64 a1_0, .int .i64 a1_1, .int .i64 a1_2, .int .i64 a1_3, .int .i64 a1_4] 49 (0, 0)) (by (with_reducible repeat (first | refine blk_drewN ?_ _ | refine blk_drew ?_ | refine blk_alloc ?_ _)); exact BK392.out) NB392_396.out (by simp))
             have n2_ := Aside0.mk (Kd.R_mono (Kd.R_keep (IsS58.apart (show IsS58 w _ g396 t401 t402 from by repeat (first | (with_reducible first | exact HI396.out | apply IsS58.alloc | apply IsS58.drewN | apply IsS58.drew | apply IsS58.set_0 | apply IsS58.set_1 | refine IsS58.far ?_ NB396_391.out _ | refine IsS58.far ?_ NB396_392.out _) | exact HI396.out)) (by (with_reducible repeat (first | apply Kd.R_alloc | apply Kd.R_drewN | apply Kd.R_drew)); exact HO400.out) (by decide)) hk (fun _ h => h.2)) (fun _ h => h.1))
             have n3_ := Aside0.mk (hb)
             have n4_ := Aside0.mk (hi)
             clear BK391
             clear BK392
             clear HO400
             clear HB
             clear HI396
             have BK391 := n0_
             have BK392 := n1_
             have HO400 := n2_
             have HB := n3_
             have HI396 := n4_
             clear n0_ n1_ n2_ n3_ n4_
             (try clear hb)
             (try clear hb2)
             (try clear hk)
             (try clear hi)
             refine hK.out _ _ trivial (fun hHeld => ?_)
             clear hK K
             refine norm_ (a' := ?_) ?_ ?_
             rotate_left
             ·show Act.put _ (some 45) _ = _
              simp only [Act.put, sA,sZ,sS, i64_w, i32_w]
              rfl
             refine pure_ (i := 16) (N := some 50) (v := ?_) (a' := ?_) #[U,U,U,U,U,U,U,U,U,U,U,U,U,U,U,U,U,V,V,V,V,V,V,V] rfl rfl (any_of HT_.out (by kernel_rfl)) (fun _ _ _ h => h) (Or.inl ⟨by rfl, ?_⟩) ?_ ?_; rotate_left; (· intro w'; go_simp; with_reducible rfl); rotate_left; (· simp only [Act.put, sA,sZ,sS, i64_w, i32_w]; rfl); refine pure_ (i := 17) (N := some 51) (v := ?_) (a' := ?_) #[U,U,U,U,U,U,U,U,U,U,U,U,U,U,U,U,U,U,V,V,V,V,V,V] rfl rfl (any_of HT_.out (by kernel_rfl)) (fun _ _ _ h => h) (Or.inl ⟨by rfl, ?_⟩) ?_ ?_; rotate_left; (· intro w'; go_simp; with_reducible rfl); rotate_left; (· simp only [Act.put, sA,sZ,sS, i64_w, i32_w]; rfl); refine pure_ (i := 18) (N := some 52) (v := ?_) (a' := ?_) #[U,U,U,U,U,U,U,U,U,U,U,U,U,U,U,U,U,U,U,V,V,V,V,V] rfl rfl (any_of HT_.out (by kernel_rfl)) (fun _ _ _ h => h) (Or.inl ⟨by rfl, ?_⟩) ?_ ?_; rotate_left; (· intro w'; go_simp; with_reducible rfl); rotate_left; (· simp only [Act.put, sA,sZ,sS, i64_w, i32_w]; rfl); refine pure_ (i := 19) (N := some 53) (v := undef) (a' := ?_) #[U,U,U,U,U,U,U,U,U,U,U,U,U,U,U,U,U,U,U,U,V,V,V,V] rfl rfl (any_of HT_.out (by kernel_rfl)) (fun _ _ _ h => h) (Or.inr ⟨by rfl, rfl⟩) ?_ ?_; rotate_left; (· simp only [Act.put, sA,sZ,sS, i64_w, i32_w]; rfl); refine pure_ (i := 20) (N := some 54) (v := undef) (a' := ?_) #[U,U,U,U,U,U,U,U,U,U,U,U,U,U,U,U,U,U,U,U,U,V,V,V] rfl rfl (any_of HT_.out (by kernel_rfl)) (fun _ _ _ h => h) (Or.inr ⟨by rfl, rfl⟩) ?_ ?_; rotate_left; (· simp only [Act.put, sA,sZ,sS, i64_w, i32_w]; rfl); refine pure_ (i := 21) (N := some 55) (v := undef) (a' := ?_) #[U,U,U,U,U,U,U,U,U,U,U,U,U,U,U,U,U,U,U,U,U,U,V,V] rfl rfl (any_of HT_.out (by kernel_rfl)) (fun _ _ _ h => h) (Or.inr ⟨by rfl, rfl⟩) ?_ ?_; rotate_left; (· simp only [Act.put, sA,sZ,sS, i64_w, i32_w]; rfl); refine pure_ (i := 22) (N := some 56) (v := ?_) (a' := ?_) #[U,U,U,U,U,U,U,U,U,U,U,U,U,U,U,U,U,U,U,U,U,U,U,V] rfl rfl (any_of HT_.out (by kernel_rfl)) (fun _ _ _ h => h) (Or.inl ⟨by rfl, ?_⟩) ?_ ?_; rotate_left; (· intro w'; go_simp; with_reducible rfl); rotate_left; (· simp only [Act.put, sA,sZ,sS, i64_w, i32_w]; rfl); refine pure_ (i := 23) (N := some 57) (v := ?_) (a' := ?_) #[U,U,U,U,U,U,U,U,U,U,U,U,U,U,U,U,U,U,U,U,U,U,U,U] rfl rfl (any_of HT_.out (by kernel_rfl)) (fun _ _ _ h => h) (Or.inl ⟨by rfl, ?_⟩) ?_ ?_; rotate_left; (· intro w'; go_simp; with_reducible rfl); rotate_left; (· simp only [Act.put, sA,sZ,sS, i64_w, i32_w]; rfl)
             refine done_ (done_of HT_.out (by kernel_rfl)) ?_
             try go_wp2
             go_meet
             case rel => exact ⟨_, (true), (t404), (t405), (by first | rfl | (simp; done) | (simp [*]; done)), H', ⟨by have := HK1.out; first | omega | exact Nat.le_refl _⟩, ⟨by (with_reducible repeat (first | apply Kd.R_alloc | apply Kd.R_drewN | apply Kd.R_drew)); exact Kd.R_mono HO400.out (fun _ hk => ⟨hk.1.2, hk.2⟩)⟩, ⟨by (with_reducible repeat (first | refine blk_drewN ?_ _ | refine blk_drew ?_ | refine blk_alloc ?_ _)); exact BK391.out⟩, ⟨by (with_reducible repeat (first | refine blk_drewN ?_ _ | refine blk_drew ?_ | refine blk_alloc ?_ _)); exact BK392.out⟩, ⟨by repeat (first | (with_reducible first | exact HI396.out | apply IsS58.alloc | apply IsS58.drewN | apply IsS58.drew | apply IsS58.set_0 | apply IsS58.set_1 | refine IsS58.far ?_ NB396_391.out _ | refine IsS58.far ?_ NB396_392.out _) | exact HI396.out)⟩, ⟨by repeat (first | (with_reducible first | exact HB.out | apply below_alloc | apply pw_below_drewN | apply below_drew1 | refine below_set ?_ (IsS58.ge HI396.out) | refine below_set ?_ GE391.out | refine below_set ?_ GE392.out) | exact HB.out)⟩⟩
           ·rw [if_neg c26] at H
            exact absurd H (by simp)
          ·rw [if_neg c23] at H
           have c23b0 : ((t398.length : Int) == 0) = false := beq_eq_false_iff_ne.mpr c23
           have c23b1 : ((t398.length : Int) != 0) = true := bne_iff_ne.mpr c23
           have c23b2 : ¬ (t398 = []) := fun h_ => c23 (by rw [h_]; rfl)
           have H' := Aside0.mk H
           clear H
           try go_wp2
           have n0_ := Aside0.mk (Kd.R_drew HO400.out)
           have n1_ := Aside0.mk (blk_drew BK391.out)
           have n2_ := Aside0.mk (blk_drew BK392.out)
           have n3_ := Aside0.mk (IsS58.drew HI396.out)
           have n4_ := Aside0.mk (below_drew1 HB.out)
           clear HO400
           clear BK391
           clear BK392
           clear HI396
           clear HB
           have HO400 := n0_
           have BK391 := n1_
           have BK392 := n2_
           have HI396 := n3_
           have HB := n4_
           clear n0_ n1_ n2_ n3_ n4_
           obtain ⟨Ao38, co38, eo38⟩ := Kd.R_slice HO400.out
           (first | subst eo38 | (injection eo38 with f1_ f2_ f3_; have f4_ := f1_.symm; have f5_ := f3_.symm; clear f1_ f2_ f3_; subst f4_; subst f5_))
           refine start_ (n := 24) (S := fun w' => True) (ds := []) #[V,V,V,V,V,V,V,V,V,V,V,V,V,V,V,V,V,V,V,V,V,V,V,V] (by kernel_rfl) rfl rfl trivial (fun hHeld => ?_); refine with_tabW bournelaw11_ScanCut.tab11 bournelaw11_ScanCut.bits11 (fun HT_ HW_ => ?_)
           generalize w21.drew = w37 at HO400 BK391 BK392 HI396 HB hHeld ⊢
           refine pure_ (i := 0) (N := some 34) (v := ?_) (a' := ?_) #[U,V,V,V,V,V,V,V,V,V,V,V,V,V,V,V,V,V,V,V,V,V,V,V] rfl rfl (any_of HT_.out (by kernel_rfl)) (fun _ _ _ h => h) (Or.inl ⟨by rfl, ?_⟩) ?_ ?_; rotate_left; (· intro w'; go_simp; with_reducible rfl); rotate_left; (· simp only [Act.put, sA,sZ,sS, i64_w, i32_w]; rfl); refine pure_ (i := 1) (N := some 35) (v := ?_) (a' := ?_) #[U,U,V,V,V,V,V,V,V,V,V,V,V,V,V,V,V,V,V,V,V,V,V,V] rfl rfl (any_of HT_.out (by kernel_rfl)) (fun _ _ _ h => h) (Or.inl ⟨by rfl, ?_⟩) ?_ ?_; rotate_left; (· intro w'; go_simp; with_reducible rfl); rotate_left; (· simp only [Act.put, sA,sZ,sS, i64_w, i32_w]; rfl); refine pure_ (i := 2) (N := some 36) (v := ?_) (a' := ?_) #[U,U,U,V,V,V,V,V,V,V,V,V,V,V,V,V,V,V,V,V,V,V,V,V] rfl rfl (any_of HT_.out (by kernel_rfl)) (fun _ _ _ h => h) (Or.inl ⟨by rfl, ?_⟩) ?_ ?_; rotate_left; (· intro w'; go_simp; with_reducible rfl); rotate_left; (· simp only [Act.put, sA,sZ,sS, i64_w, i32_w]; rfl); refine pure_ (i := 3) (N := some 37) (v := ?_) (a' := ?_) #[U,U,U,U,V,V,V,V,V,V,V,V,V,V,V,V,V,V,V,V,V,V,V,V] rfl rfl (any_of HT_.out (by kernel_rfl)) (fun _ _ _ h => h) (Or.inl ⟨by rfl, ?_⟩) ?_ ?_; rotate_left; (· intro w'; go_simp; with_reducible rfl); rotate_left; (· simp only [Act.put, sA,sZ,sS, i64_w, i32_w]; rfl); refine pure_ (i := 4) (N := some 38) (v := ?_) (a' := ?_) #[U,U,U,U,U,V,V,V,V,V,V,V,V,V,V,V,V,V,V,V,V,V,V,V] rfl rfl (any_of HT_.out (by kernel_rfl)) (fun _ _ _ h => h) (Or.inl ⟨by rfl, ?_⟩) ?_ ?_; rotate_left; (· intro w'; go_simp; with_reducible rfl); rotate_left; (· simp only [Act.put, sA,sZ,sS, i64_w, i32_w]; rfl); refine pure_ (i := 5) (N := some 39) (v := ?_) (a' := ?_) #[U,U,U,U,U,U,V,V,V,V,V,V,V,V,V,V,V,V,V,V,V,V,V,V] rfl rfl (any_of HT_.out (by kernel_rfl)) (fun _ _ _ h => h) (Or.inl ⟨by rfl, ?_⟩) ?_ ?_; rotate_left; (· intro w'; go_simp; with_reducible rfl); rotate_left; (· simp only [Act.put, sA,sZ,sS, i64_w, i32_w]; rfl); refine pure_ (i := 6) (N := some 40) (v := ?_) (a' := ?_) #[U,U,U,U,U,U,U,V,V,V,V,V,V,V,V,V,V,V,V,V,V,V,V,V] rfl rfl (any_of HT_.out (by kernel_rfl)) (fun _ _ _ h => h) (Or.inl ⟨by rfl, ?_⟩) ?_ ?_; rotate_left; (· intro w'; go_simp; with_reducible rfl); rotate_left; (· simp only [Act.put, sA,sZ,sS, i64_w, i32_w]; rfl); refine pure_ (i := 7) (N := some 41) (v := ?_) (a' := ?_) #[U,U,U,U,U,U,U,U,V,V,V,V,V,V,V,V,V,V,V,V,V,V,V,V] rfl rfl (any_of HT_.out (by kernel_rfl)) (fun _ _ _ h => h) (Or.inl ⟨by rfl, ?_⟩) ?_ ?_; rotate_left; (· intro w'; go_simp; with_reducible rfl); rotate_left; (· simp only [Act.put, sA,sZ,sS, i64_w, i32_w]; rfl); refine pure_ (i := 8) (N := some 42) (v := ?_) (a' := ?_) #[U,U,U,U,U,U,U,U,U,V,V,V,V,V,V,V,V,V,V,V,V,V,V,V] rfl rfl (any_of HT_.out (by kernel_rfl)) (fun _ _ _ h => h) (Or.inl ⟨by rfl, ?_⟩) ?_ ?_; rotate_left; (· intro w'; go_simp; with_reducible rfl); rotate_left; (· simp only [Act.put, sA,sZ,sS, i64_w, i32_w]; rfl); refine pure_ (i := 9) (N := some 43) (v := ?_) (a' := ?_) #[U,U,U,U,U,U,U,U,U,U,V,V,V,V,V,V,V,V,V,V,V,V,V,V] rfl rfl (any_of HT_.out (by kernel_rfl)) (fun _ _ _ h => h) (Or.inl ⟨by rfl, ?_⟩) ?_ ?_; rotate_left; (· intro w'; go_simp; with_reducible rfl); rotate_left; (· simp only [Act.put, sA,sZ,sS, i64_w, i32_w]; rfl); refine pure_ (i := 10) (N := some 44) (v := undef) (a' := ?_) #[U,U,U,U,U,U,U,U,U,U,U,V,V,V,V,V,V,V,V,V,V,V,V,V] rfl rfl (any_of HT_.out (by kernel_rfl)) (fun _ _ _ h => h) (Or.inr ⟨by rfl, rfl⟩) ?_ ?_; rotate_left; (· simp only [Act.put, sA,sZ,sS, i64_w, i32_w]; rfl); refine pure_ (i := 11) (N := some 45) (v := undef) (a' := ?_) #[U,U,U,U,U,U,U,U,U,U,U,U,V,V,V,V,V,V,V,V,V,V,V,V] rfl rfl (any_of HT_.out (by kernel_rfl)) (fun _ _ _ h => h) (Or.inr ⟨by rfl, rfl⟩) ?_ ?_; rotate_left; (· simp only [Act.put, sA,sZ,sS, i64_w, i32_w]; rfl); refine pure_ (i := 12) (N := some 46) (v := undef) (a' := ?_) #[U,U,U,U,U,U,U,U,U,U,U,U,U,V,V,V,V,V,V,V,V,V,V,V] rfl rfl (any_of HT_.out (by kernel_rfl)) (fun _ _ _ h => h) (Or.inr ⟨by rfl, rfl⟩) ?_ ?_; rotate_left; (· simp only [Act.put, sA,sZ,sS, i64_w, i32_w]; rfl); refine pure_ (i := 13) (N := some 47) (v := undef) (a' := ?_) #[U,U,U,U,U,U,U,U,U,U,U,U,U,U,V,V,V,V,V,V,V,V,V,V] rfl rfl (any_of HT_.out (by kernel_rfl)) (fun _ _ _ h => h) (Or.inr ⟨by rfl, rfl⟩) ?_ ?_; rotate_left; (· simp only [Act.put, sA,sZ,sS, i64_w, i32_w]; rfl); refine pure_ (i := 14) (N := some 48) (v := undef) (a' := ?_) #[U,U,U,U,U,U,U,U,U,U,U,U,U,U,U,V,V,V,V,V,V,V,V,V] rfl rfl (any_of HT_.out (by kernel_rfl)) (fun _ _ _ h => h) (Or.inr ⟨by rfl, rfl⟩) ?_ ?_; rotate_left; (· simp only [Act.put, sA,sZ,sS, i64_w, i32_w]; rfl); refine pure_ (i := 15) (N := some 49) (v := undef) (a' := ?_) #[U,U,U,U,U,U,U,U,U,U,U,U,U,U,U,U,V,V,V,V,V,V,V,V] rfl rfl (any_of HT_.out (by kernel_rfl)) (fun _ _ _ h => h) (Or.inr ⟨by rfl, rfl⟩) ?_ ?_; rotate_left; (· simp only [Act.put, sA,sZ,sS, i64_w, i32_w]; rfl); refine pure_ (i := 16) (N := some 50) (v := undef) (a' := ?_) #[U,U,U,U,U,U,U,U,U,U,U,U,U,U,U,U,U,V,V,V,V,V,V,V] rfl rfl (any_of HT_.out (by kernel_rfl)) (fun _ _ _ h => h) (Or.inr ⟨by rfl, rfl⟩) ?_ ?_; rotate_left; (· simp only [Act.put, sA,sZ,sS, i64_w, i32_w]; rfl); refine pure_ (i := 17) (N := some 51) (v := ?_) (a' := ?_) #[U,U,U,U,U,U,U,U,U,U,U,U,U,U,U,U,U,U,V,V,V,V,V,V] rfl rfl (any_of HT_.out (by kernel_rfl)) (fun _ _ _ h => h) (Or.inl ⟨by rfl, ?_⟩) ?_ ?_; rotate_left; (· intro w'; go_simp; with_reducible rfl); rotate_left; (· simp only [Act.put, sA,sZ,sS, i64_w, i32_w]; rfl); refine pure_ (i := 18) (N := some 52) (v := ?_) (a' := ?_) #[U,U,U,U,U,U,U,U,U,U,U,U,U,U,U,U,U,U,U,V,V,V,V,V] rfl rfl (any_of HT_.out (by kernel_rfl)) (fun _ _ _ h => h) (Or.inl ⟨by rfl, ?_⟩) ?_ ?_; rotate_left; (· intro w'; go_simp; with_reducible rfl); rotate_left; (· simp only [Act.put, sA,sZ,sS, i64_w, i32_w]; rfl); refine pure_ (i := 19) (N := some 53) (v := undef) (a' := ?_) #[U,U,U,U,U,U,U,U,U,U,U,U,U,U,U,U,U,U,U,U,V,V,V,V] rfl rfl (any_of HT_.out (by kernel_rfl)) (fun _ _ _ h => h) (Or.inr ⟨by rfl, rfl⟩) ?_ ?_; rotate_left; (· simp only [Act.put, sA,sZ,sS, i64_w, i32_w]; rfl); refine pure_ (i := 20) (N := some 54) (v := undef) (a' := ?_) #[U,U,U,U,U,U,U,U,U,U,U,U,U,U,U,U,U,U,U,U,U,V,V,V] rfl rfl (any_of HT_.out (by kernel_rfl)) (fun _ _ _ h => h) (Or.inr ⟨by rfl, rfl⟩) ?_ ?_; rotate_left; (· simp only [Act.put, sA,sZ,sS, i64_w, i32_w]; rfl); refine pure_ (i := 21) (N := some 55) (v := undef) (a' := ?_) #[U,U,U,U,U,U,U,U,U,U,U,U,U,U,U,U,U,U,U,U,U,U,V,V] rfl rfl (any_of HT_.out (by kernel_rfl)) (fun _ _ _ h => h) (Or.inr ⟨by rfl, rfl⟩) ?_ ?_; rotate_left; (· simp only [Act.put, sA,sZ,sS, i64_w, i32_w]; rfl); refine pure_ (i := 22) (N := some 56) (v := ?_) (a' := ?_) #[U,U,U,U,U,U,U,U,U,U,U,U,U,U,U,U,U,U,U,U,U,U,U,V] rfl rfl (any_of HT_.out (by kernel_rfl)) (fun _ _ _ h => h) (Or.inl ⟨by rfl, ?_⟩) ?_ ?_; rotate_left; (· intro w'; go_simp; with_reducible rfl); rotate_left; (· simp only [Act.put, sA,sZ,sS, i64_w, i32_w]; rfl); refine pure_ (i := 23) (N := some 57) (v := ?_) (a' := ?_) #[U,U,U,U,U,U,U,U,U,U,U,U,U,U,U,U,U,U,U,U,U,U,U,U] rfl rfl (any_of HT_.out (by kernel_rfl)) (fun _ _ _ h => h) (Or.inl ⟨by rfl, ?_⟩) ?_ ?_; rotate_left; (· intro w'; go_simp; with_reducible rfl); rotate_left; (· simp only [Act.put, sA,sZ,sS, i64_w, i32_w]; rfl)
           refine done_ (done_of HT_.out (by kernel_rfl)) ?_
           try go_wp2
           go_meet
           case rel => exact ⟨_, (true), (t401), (t402), (by first | rfl | (simp; done) | (simp [*]; done)), H', ⟨by have := HK1.out; first | omega | exact Nat.le_refl _⟩, ⟨by (with_reducible repeat (first | apply Kd.R_alloc | apply Kd.R_drewN | apply Kd.R_drew)); exact Kd.R_mono HO400.out (fun _ hk => ⟨hk.1.2, hk.2⟩)⟩, ⟨by (with_reducible repeat (first | refine blk_drewN ?_ _ | refine blk_drew ?_ | refine blk_alloc ?_ _)); exact BK391.out⟩, ⟨by (with_reducible repeat (first | refine blk_drewN ?_ _ | refine blk_drew ?_ | refine blk_alloc ?_ _)); exact BK392.out⟩, ⟨by repeat (first | (with_reducible first | exact HI396.out | apply IsS58.alloc | apply IsS58.drewN | apply IsS58.drew | apply IsS58.set_0 | apply IsS58.set_1 | refine IsS58.far ?_ NB396_391.out _ | refine IsS58.far ?_ NB396_392.out _) | exact HI396.out)⟩, ⟨by repeat (first | (with_reducible first | exact HB.out | apply below_alloc | apply pw_below_drewN | apply below_drew1 | refine below_set ?_ (IsS58.ge HI396.out) | refine below_set ?_ GE391.out | refine below_set ?_ GE392.out) | exact HB.out)⟩⟩
         ·rw [if_neg c22] at H
          have c22b0 : decide (x7_1 < (wrap64 ((t397.size : Int) - 1))) = false := decide_eq_false c22
          clear c22
          (first | rw [c22b0] | (simp only [i64_w, i32_w]; rw [c22b0]) | skip)
          have H' := Aside0.mk H
          clear H
          try go_wp2
          have n0_ := Aside0.mk (Kd.R_drew HO400.out)
          have n1_ := Aside0.mk (blk_drew BK391.out)
          have n2_ := Aside0.mk (blk_drew BK392.out)
          have n3_ := Aside0.mk (IsS58.drew HI396.out)
          have n4_ := Aside0.mk (below_drew1 HB.out)
          clear HO400
          clear BK391
          clear BK392
          clear HI396
          clear HB
          have HO400 := n0_
          have BK391 := n1_
          have BK392 := n2_
          have HI396 := n3_
          have HB := n4_
          clear n0_ n1_ n2_ n3_ n4_
          refine start_ (n := 24) (S := fun w' => True) (ds := []) #[V,V,V,V,V,V,V,V,V,V,V,V,V,V,V,V,V,V,V,V,V,V,V,V] (by kernel_rfl) rfl rfl trivial (fun hHeld => ?_); refine with_tabW bournelaw11_ScanCut.tab11 bournelaw11_ScanCut.bits11 (fun HT_ HW_ => ?_)
          generalize w21.drew = w39 at HO400 BK391 BK392 HI396 HB hHeld ⊢
          refine pure_ (i := 0) (N := some 34) (v := ?_) (a' := ?_) #[U,V,V,V,V,V,V,V,V,V,V,V,V,V,V,V,V,V,V,V,V,V,V,V] rfl rfl (any_of HT_.out (by kernel_rfl)) (fun _ _ _ h => h) (Or.inl ⟨by rfl, ?_⟩) ?_ ?_; rotate_left; (· intro w'; go_simp; with_reducible rfl); rotate_left; (· simp only [Act.put, sA,sZ,sS, i64_w, i32_w]; rfl); refine pure_ (i := 1) (N := some 35) (v := ?_) (a' := ?_) #[U,U,V,V,V,V,V,V,V,V,V,V,V,V,V,V,V,V,V,V,V,V,V,V] rfl rfl (any_of HT_.out (by kernel_rfl)) (fun _ _ _ h => h) (Or.inl ⟨by rfl, ?_⟩) ?_ ?_; rotate_left; (· intro w'; go_simp; with_reducible rfl); rotate_left; (· simp only [Act.put, sA,sZ,sS, i64_w, i32_w]; rfl); refine pure_ (i := 2) (N := some 36) (v := ?_) (a' := ?_) #[U,U,U,V,V,V,V,V,V,V,V,V,V,V,V,V,V,V,V,V,V,V,V,V] rfl rfl (any_of HT_.out (by kernel_rfl)) (fun _ _ _ h => h) (Or.inl ⟨by rfl, ?_⟩) ?_ ?_; rotate_left; (· intro w'; go_simp; with_reducible rfl); rotate_left; (· simp only [Act.put, sA,sZ,sS, i64_w, i32_w]; rfl); refine pure_ (i := 3) (N := some 37) (v := ?_) (a' := ?_) #[U,U,U,U,V,V,V,V,V,V,V,V,V,V,V,V,V,V,V,V,V,V,V,V] rfl rfl (any_of HT_.out (by kernel_rfl)) (fun _ _ _ h => h) (Or.inl ⟨by rfl, ?_⟩) ?_ ?_; rotate_left; (· intro w'; go_simp; with_reducible rfl); rotate_left; (· simp only [Act.put, sA,sZ,sS, i64_w, i32_w]; rfl); refine pure_ (i := 4) (N := some 38) (v := ?_) (a' := ?_) #[U,U,U,U,U,V,V,V,V,V,V,V,V,V,V,V,V,V,V,V,V,V,V,V] rfl rfl (any_of HT_.out (by kernel_rfl)) (fun _ _ _ h => h) (Or.inl ⟨by rfl, ?_⟩) ?_ ?_; rotate_left; (· intro w'; go_simp; with_reducible rfl); rotate_left; (· simp only [Act.put, sA,sZ,sS, i64_w, i32_w]; rfl); refine pure_ (i := 5) (N := some 39) (v := ?_) (a' := ?_) #[U,U,U,U,U,U,V,V,V,V,V,V,V,V,V,V,V,V,V,V,V,V,V,V] rfl rfl (any_of HT_.out (by kernel_rfl)) (fun _ _ _ h => h) (Or.inl ⟨by rfl, ?_⟩) ?_ ?_; rotate_left; (· intro w'; go_simp; with_reducible rfl); rotate_left; (· simp only [Act.put, sA,sZ,sS, i64_w, i32_w]; rfl); refine pure_ (i := 6) (N := some 40) (v := undef) (a' := ?_) #[U,U,U,U,U,U,U,V,V,V,V,V,V,V,V,V,V,V,V,V,V,V,V,V] rfl rfl (any_of HT_.out (by kernel_rfl)) (fun _ _ _ h => h) (Or.inr ⟨by rfl, rfl⟩) ?_ ?_; rotate_left; (· simp only [Act.put, sA,sZ,sS, i64_w, i32_w]; rfl); refine pure_ (i := 7) (N := some 41) (v := undef) (a' := ?_) #[U,U,U,U,U,U,U,U,V,V,V,V,V,V,V,V,V,V,V,V,V,V,V,V] rfl rfl (any_of HT_.out (by kernel_rfl)) (fun _ _ _ h => h) (Or.inr ⟨by rfl, rfl⟩) ?_ ?_; rotate_left; (· simp only [Act.put, sA,sZ,sS, i64_w, i32_w]; rfl); refine pure_ (i := 8) (N := some 42) (v := undef) (a' := ?_) #[U,U,U,U,U,U,U,U,U,V,V,V,V,V,V,V,V,V,V,V,V,V,V,V] rfl rfl (any_of HT_.out (by kernel_rfl)) (fun _ _ _ h => h) (Or.inr ⟨by rfl, rfl⟩) ?_ ?_; rotate_left; (· simp only [Act.put, sA,sZ,sS, i64_w, i32_w]; rfl); refine pure_ (i := 9) (N := some 43) (v := undef) (a' := ?_) #[U,U,U,U,U,U,U,U,U,U,V,V,V,V,V,V,V,V,V,V,V,V,V,V] rfl rfl (any_of HT_.out (by kernel_rfl)) (fun _ _ _ h => h) (Or.inr ⟨by rfl, rfl⟩) ?_ ?_; rotate_left; (· simp only [Act.put, sA,sZ,sS, i64_w, i32_w]; rfl); refine pure_ (i := 10) (N := some 44) (v := undef) (a' := ?_) #[U,U,U,U,U,U,U,U,U,U,U,V,V,V,V,V,V,V,V,V,V,V,V,V] rfl rfl (any_of HT_.out (by kernel_rfl)) (fun _ _ _ h => h) (Or.inr ⟨by rfl, rfl⟩) ?_ ?_; rotate_left; (· simp only [Act.put, sA,sZ,sS, i64_w, i32_w]; rfl); refine pure_ (i := 11) (N := some 45) (v := undef) (a' := ?_) #[U,U,U,U,U,U,U,U,U,U,U,U,V,V,V,V,V,V,V,V,V,V,V,V] rfl rfl (any_of HT_.out (by kernel_rfl)) (fun _ _ _ h => h) (Or.inr ⟨by rfl, rfl⟩) ?_ ?_; rotate_left; (· simp only [Act.put, sA,sZ,sS, i64_w, i32_w]; rfl); refine pure_ (i := 12) (N := some 46) (v := undef) (a' := ?_) #[U,U,U,U,U,U,U,U,U,U,U,U,U,V,V,V,V,V,V,V,V,V,V,V] rfl rfl (any_of HT_.out (by kernel_rfl)) (fun _ _ _ h => h) (Or.inr ⟨by rfl, rfl⟩) ?_ ?_; rotate_left; (· simp only [Act.put, sA,sZ,sS, i64_w, i32_w]; rfl); refine pure_ (i := 13) (N := some 47) (v := undef) (a' := ?_) #[U,U,U,U,U,U,U,U,U,U,U,U,U,U,V,V,V,V,V,V,V,V,V,V] rfl rfl (any_of HT_.out (by kernel_rfl)) (fun _ _ _ h => h) (Or.inr ⟨by rfl, rfl⟩) ?_ ?_; rotate_left; (· simp only [Act.put, sA,sZ,sS, i64_w, i32_w]; rfl); refine pure_ (i := 14) (N := some 48) (v := undef) (a' := ?_) #[U,U,U,U,U,U,U,U,U,U,U,U,U,U,U,V,V,V,V,V,V,V,V,V] rfl rfl (any_of HT_.out (by kernel_rfl)) (fun _ _ _ h => h) (Or.inr ⟨by rfl, rfl⟩) ?_ ?_; rotate_left; (· simp only [Act.put, sA,sZ,sS, i64_w, i32_w]; rfl); refine pure_ (i := 15) (N := some 49) (v := undef) (a' := ?_) #[U,U,U,U,U,U,U,U,U,U,U,U,U,U,U,U,V,V,V,V,V,V,V,V] rfl rfl (any_of HT_.out (by kernel_rfl)) (fun _ _ _ h => h) (Or.inr ⟨by rfl, rfl⟩) ?_ ?_; rotate_left; (· simp only [Act.put, sA,sZ,sS, i64_w, i32_w]; rfl); refine pure_ (i := 16) (N := some 50) (v := undef) (a' := ?_) #[U,U,U,U,U,U,U,U,U,U,U,U,U,U,U,U,U,V,V,V,V,V,V,V] rfl rfl (any_of HT_.out (by kernel_rfl)) (fun _ _ _ h => h) (Or.inr ⟨by rfl, rfl⟩) ?_ ?_; rotate_left; (· simp only [Act.put, sA,sZ,sS, i64_w, i32_w]; rfl); refine pure_ (i := 17) (N := some 51) (v := undef) (a' := ?_) #[U,U,U,U,U,U,U,U,U,U,U,U,U,U,U,U,U,U,V,V,V,V,V,V] rfl rfl (any_of HT_.out (by kernel_rfl)) (fun _ _ _ h => h) (Or.inr ⟨by rfl, rfl⟩) ?_ ?_; rotate_left; (· simp only [Act.put, sA,sZ,sS, i64_w, i32_w]; rfl); refine pure_ (i := 18) (N := some 52) (v := undef) (a' := ?_) #[U,U,U,U,U,U,U,U,U,U,U,U,U,U,U,U,U,U,U,V,V,V,V,V] rfl rfl (any_of HT_.out (by kernel_rfl)) (fun _ _ _ h => h) (Or.inr ⟨by rfl, rfl⟩) ?_ ?_; rotate_left; (· simp only [Act.put, sA,sZ,sS, i64_w, i32_w]; rfl); refine pure_ (i := 19) (N := some 53) (v := undef) (a' := ?_) #[U,U,U,U,U,U,U,U,U,U,U,U,U,U,U,U,U,U,U,U,V,V,V,V] rfl rfl (any_of HT_.out (by kernel_rfl)) (fun _ _ _ h => h) (Or.inr ⟨by rfl, rfl⟩) ?_ ?_; rotate_left; (· simp only [Act.put, sA,sZ,sS, i64_w, i32_w]; rfl); refine pure_ (i := 20) (N := some 54) (v := undef) (a' := ?_) #[U,U,U,U,U,U,U,U,U,U,U,U,U,U,U,U,U,U,U,U,U,V,V,V] rfl rfl (any_of HT_.out (by kernel_rfl)) (fun _ _ _ h => h) (Or.inr ⟨by rfl, rfl⟩) ?_ ?_; rotate_left; (· simp only [Act.put, sA,sZ,sS, i64_w, i32_w]; rfl); refine pure_ (i := 21) (N := some 55) (v := undef) (a' := ?_) #[U,U,U,U,U,U,U,U,U,U,U,U,U,U,U,U,U,U,U,U,U,U,V,V] rfl rfl (any_of HT_.out (by kernel_rfl)) (fun _ _ _ h => h) (Or.inr ⟨by rfl, rfl⟩) ?_ ?_; rotate_left; (· simp only [Act.put, sA,sZ,sS, i64_w, i32_w]; rfl); refine pure_ (i := 22) (N := some 56) (v := undef) (a' := ?_) #[U,U,U,U,U,U,U,U,U,U,U,U,U,U,U,U,U,U,U,U,U,U,U,V] rfl rfl (any_of HT_.out (by kernel_rfl)) (fun _ _ _ h => h) (Or.inr ⟨by rfl, rfl⟩) ?_ ?_; rotate_left; (· simp only [Act.put, sA,sZ,sS, i64_w, i32_w]; rfl); refine pure_ (i := 23) (N := some 57) (v := ?_) (a' := ?_) #[U,U,U,U,U,U,U,U,U,U,U,U,U,U,U,U,U,U,U,U,U,U,U,U] rfl rfl (any_of HT_.out (by kernel_rfl)) (fun _ _ _ h => h) (Or.inl ⟨by rfl, ?_⟩) ?_ ?_; rotate_left; (· intro w'; go_simp; with_reducible rfl); rotate_left; (· simp only [Act.put, sA,sZ,sS, i64_w, i32_w]; rfl)
          refine done_ (done_of HT_.out (by kernel_rfl)) ?_
          try go_wp2
          go_meet
          case rel => exact ⟨_, (false), (t401), (t402), (by first | rfl | (simp; done) | (simp [*]; done)), H', ⟨by have := HK1.out; first | omega | exact Nat.le_refl _⟩, ⟨by (with_reducible repeat (first | apply Kd.R_alloc | apply Kd.R_drewN | apply Kd.R_drew)); exact Kd.R_mono HO400.out (fun _ hk => ⟨hk.1.2, hk.2⟩)⟩, ⟨by (with_reducible repeat (first | refine blk_drewN ?_ _ | refine blk_drew ?_ | refine blk_alloc ?_ _)); exact BK391.out⟩, ⟨by (with_reducible repeat (first | refine blk_drewN ?_ _ | refine blk_drew ?_ | refine blk_alloc ?_ _)); exact BK392.out⟩, ⟨by repeat (first | (with_reducible first | exact HI396.out | apply IsS58.alloc | apply IsS58.drewN | apply IsS58.drew | apply IsS58.set_0 | apply IsS58.set_1 | refine IsS58.far ?_ NB396_391.out _ | refine IsS58.far ?_ NB396_392.out _) | exact HI396.out)⟩, ⟨by repeat (first | (with_reducible first | exact HB.out | apply below_alloc | apply pw_below_drewN | apply below_drew1 | refine below_set ?_ (IsS58.ge HI396.out) | refine below_set ?_ GE391.out | refine below_set ?_ GE392.out) | exact HB.out)⟩⟩
        case rest =>
         clear HC20
         try clear c1
         try clear c2
         try clear p2
         try clear p6
         try clear c16
         try clear c22
         try clear c22b0
         try clear c23
         try clear c23b0
         try clear c23b1
         try clear c23b2
         try clear c26
         try clear c28
         try clear c28b0
         try clear c28b1
         obtain ⟨kq, x57_19, x397000_19, x397001_19, rfl, HA, HJ19, HO_8, BK391, BK392, HI396, HB⟩ := hcut
         cases kq with
         | zero => exact absurd HA.out (by simp [bournelaw11_ScanCut.j1])
          | succ kj19 =>
          have H := HA.out
          clear HA
          simp only [bournelaw11_ScanCut.j1] at H
          by_cases c40 : x57_19 = true
          ·subst c40
           have H1 : (some false) = some r := by rw [if_pos rfl] at H; exact H
           clear H
           have H := H1
           clear H1
           exact absurd ((Option.some.inj H).trans HR_.out) (by decide)
          ·replace c40 := Bool.eq_false_iff.mpr c40
           subst c40
           have H1 : (if x7_1 = (wrap64 ((t397.size : Int) - 1)) then ((bournelaw0_SameOps.f kj19 t398 (([(⟨a0_0, a0_1, a0_2, a0_3, a0_4⟩ : S49)] : List (S49)))).bind fun t412 => (if t412 = true then ((scan_Scanner_Waits.f x397000_19 x397001_19).bind fun bt413 => (if bt413.1.toList = ([] : List UInt8) then (bournelaw11_ScanCut.l0 kj19 t397 (wrap64 (x7_1 + 1)) a0_0 a0_1 a0_2 a0_3 a0_4 a1_0 a1_1 a1_2 a1_3 a1_4 bt413.2.1 bt413.2.2) else (some false))) else (some false))) else (bournelaw11_ScanCut.l0 kj19 t397 (wrap64 (x7_1 + 1)) a0_0 a0_1 a0_2 a0_3 a0_4 a1_0 a1_1 a1_2 a1_3 a1_4 x397000_19 x397001_19)) = some r := by rw [if_neg (show ¬ (false = true) by decide)] at H; exact H
           clear H
           have H := H1
           clear H1
           by_cases c41 : x7_1 = (wrap64 ((t397.size : Int) - 1))
           ·rw [if_pos c41] at H
            have c41b0 : (x7_1 == (wrap64 ((t397.size : Int) - 1))) = true := beq_iff_eq.mpr c41
            have c41b1 : (x7_1 != (wrap64 ((t397.size : Int) - 1))) = false := bne_eq_false_iff_eq.mpr c41
            clear c41
            obtain ⟨y409, hy409⟩ : ∃ y_ : List (S49), y_ = (([(⟨a0_0, a0_1, a0_2, a0_3, a0_4⟩ : S49)] : List (S49))) := ⟨_, rfl⟩
            replace H : ((bournelaw0_SameOps.f kj19 t398 y409).bind fun t412 => (if t412 = true then ((scan_Scanner_Waits.f x397000_19 x397001_19).bind fun bt413 => (if bt413.1.toList = ([] : List UInt8) then (bournelaw11_ScanCut.l0 kj19 t397 (wrap64 (x7_1 + 1)) a0_0 a0_1 a0_2 a0_3 a0_4 a1_0 a1_1 a1_2 a1_3 a1_4 bt413.2.1 bt413.2.2) else (some false))) else (some false))) = some r := by first | (rw [hy409]; with_reducible exact H) | (have H2_ := (Option.bind_some _ _).symm.trans H; rw [hy409]; with_reducible exact H2_) | (have H2_ := (Option.bind_some _ _).symm.trans H; with_reducible exact H2_) | with_reducible exact H | (rw [hy409]; exact H) | exact H
            have Ny409 := Aside0.mk hy409
            clear hy409
            replace H := Option.bind_eq_some_iff.mp H
            obtain ⟨t412, A420, H⟩ := H
            try dsimp only at H
            have A42 := Aside0.mk A420
            clear A420
            by_cases c43 : t412 = true
            ·subst c43
             have H1 := H
             rw [if_pos rfl] at H1
             clear H
             have H := H1
             clear H1
             replace H := Option.bind_eq_some_iff.mp H
             obtain ⟨⟨t413, t414, t415⟩, A440, H⟩ := H
             replace H : (if t413.toList = ([] : List UInt8) then (bournelaw11_ScanCut.l0 kj19 t397 (wrap64 (x7_1 + 1)) a0_0 a0_1 a0_2 a0_3 a0_4 a1_0 a1_1 a1_2 a1_3 a1_4 t414 t415) else (some false)) = some r := H
             have A44 := Aside0.mk A440
             clear A440
             by_cases c45 : t413.toList = ([] : List UInt8)
             ·rw [if_pos c45] at H
              have c45b0 : (t413.toList == ([] : List UInt8)) = true := beq_iff_eq.mpr c45
              have c45b1 : (t413.toList != ([] : List UInt8)) = false := bne_eq_false_iff_eq.mpr c45
              clear c45
              have H' := Aside0.mk H
              clear H
              have hnb46 := NB391_392.out
              have hnc46 := NB392_391.out
              have hnb47 := NB391_396.out
              have hnc47 := NB396_391.out
              have hcz48_0 : wc.cell? ⟨gb391, 0, none⟩ = some (.int .i64 a0_0) := (blk_cell BK391.out 0).trans rfl
              have hcz48_1 : wc.cell? ⟨gb391, 1, none⟩ = some (.int .i64 a0_1) := (blk_cell BK391.out 1).trans rfl
              have hcz48_2 : wc.cell? ⟨gb391, 2, none⟩ = some (.int .i64 a0_2) := (blk_cell BK391.out 2).trans rfl
              have hcz48_3 : wc.cell? ⟨gb391, 3, none⟩ = some (.int .i64 a0_3) := (blk_cell BK391.out 3).trans rfl
              have hcz48_4 : wc.cell? ⟨gb391, 4, none⟩ = some (.int .i64 a0_4) := (blk_cell BK391.out 4).trans rfl
              have hfz48_0 := blk_frozen BK391.out 0
              have hfz48_1 := blk_frozen BK391.out 1
              have hfz48_2 := blk_frozen BK391.out 2
              have hfz48_3 := blk_frozen BK391.out 3
              have hfz48_4 := blk_frozen BK391.out 4
              go_wp2_with (first | ((with_reducible refine gate_dst (N := 66) rfl ?_); (try (refine gate_guard (by rfl) ?_; dsimp only)); refine Kd.R_lit k49 _ 49 ?hg (N := 66) ?hd (xs := ([(⟨a0_0, a0_1, a0_2, a0_3, a0_4⟩ : S49)] : List (S49))) (inner := [.int .i64 a0_0, .int .i64 a0_1, .int .i64 a0_2, .int .i64 a0_3, .int .i64 a0_4]) (ok := fun _ => True) (okp := fun _ => True) ?hr ?hp (fun _ hk => hk) trivial (Below.refl _ _) (Nat.le_refl _) (by simp) ?_; (case hd => rfl); (case hg => rfl); (case hr => first | (go_simp; done) | (go_simp; rfl)); (case hp => exact (Reps.c5 (show Kd.M k49 _ _ _ (⟨a0_0, a0_1, a0_2, a0_3, a0_4⟩ : S49) [.int .i64 a0_0, .int .i64 a0_1, .int .i64 a0_2, .int .i64 a0_3, .int .i64 a0_4] from (k49_mkM _ _ _ (⟨a0_0, a0_1, a0_2, a0_3, a0_4⟩ : S49) )) (Reps.none _ _))); intro v410 w49 ho50 hb hg_ hnew_; clear hg_ hnew_; (first | rw [← Ny409.out] at ho50 | (simp only [Int.reduceToNat] at ho50; rw [← Ny409.out] at ho50)); have n0_ := Aside0.mk (Kd.R_elder' (by (with_reducible repeat (first | apply Kd.R_alloc | apply Kd.R_drewN | apply Kd.R_drew)); exact HO_8.out) (Kd.R_base ho50) hb); have n1_ := Aside0.mk (Kd.R_lower (Kd.R_newB (Kd.R_newB (Kd.R_new' ho50 (Kd.R_lt (by (with_reducible repeat (first | apply Kd.R_alloc | apply Kd.R_drewN | apply Kd.R_drew)); exact HO_8.out))) (g := gb391) (o := .cells #[.int .i64 a0_0, .int .i64 a0_1, .int .i64 a0_2, .int .i64 a0_3, .int .i64 a0_4] 49 (0, 0)) (by (with_reducible repeat (first | refine blk_drewN ?_ _ | refine blk_drew ?_ | refine blk_alloc ?_ _)); exact BK391.out)) (g := gb392) (o := .cells #[.int .i64 a1_0, .int .i64 a1_1, .int .i64 a1_2, .int .i64 a1_3, .int .i64 a1_4] 49 (0, 0)) (by (with_reducible repeat (first | refine blk_drewN ?_ _ | refine blk_drew ?_ | refine blk_alloc ?_ _)); exact BK392.out)) (below_size (by repeat (first | (with_reducible first | exact HB.out | apply below_alloc | apply pw_below_drewN | apply below_drew1 | refine below_set ?_ (IsS58.ge HI396.out) | refine below_set ?_ GE391.out | refine below_set ?_ GE392.out) | exact HB.out)))); have n2_ := Aside0.mk (blk_below (g := gb391) (o := .cells #[.int .i64 a0_0, .int .i64 a0_1, .int .i64 a0_2, .int .i64 a0_3, .int .i64 a0_4] 49 (0, 0)) (by (with_reducible repeat (first | refine blk_drewN ?_ _ | refine blk_drew ?_ | refine blk_alloc ?_ _)); exact BK391.out) hb); have n3_ := Aside0.mk (blk_below (g := gb392) (o := .cells #[.int .i64 a1_0, .int .i64 a1_1, .int .i64 a1_2, .int .i64 a1_3, .int .i64 a1_4] 49 (0, 0)) (by (with_reducible repeat (first | refine blk_drewN ?_ _ | refine blk_drew ?_ | refine blk_alloc ?_ _)); exact BK392.out) hb); have n4_ := Aside0.mk (IsS58.below (by repeat (first | (with_reducible first | exact HI396.out | apply IsS58.alloc | apply IsS58.drewN | apply IsS58.drew | apply IsS58.set_0 | apply IsS58.set_1 | refine IsS58.far ?_ NB396_391.out _ | refine IsS58.far ?_ NB396_392.out _) | exact HI396.out)) hb); have n5_ := Aside0.mk (below_step (by repeat (first | (with_reducible first | exact HB.out | apply below_alloc | apply pw_below_drewN | apply below_drew1 | refine below_set ?_ (IsS58.ge HI396.out) | refine below_set ?_ GE391.out | refine below_set ?_ GE392.out) | exact HB.out)) hb); clear HO_8; clear BK391; clear BK392; clear HI396; clear HB; have HO_8 := n0_; have HO411 := n1_; have BK391 := n2_; have BK392 := n3_; have HI396 := n4_; have HB := n5_; clear n0_ n1_ n2_ n3_ n4_ n5_; clear hb ho50; obtain ⟨Ao51, co51, eo51⟩ := Kd.R_slice HO_8.out; subst eo51; obtain ⟨Ao52, co52, eo52⟩ := Kd.R_slice HO411.out; subst eo52) | (go_at_call 15; (with_reducible refine (bournelaw0_SameOps.calls kj19 _ _ t398 _ _ y409 true _ ?side1 ?side2 ?side3 ?side4 A42.out).mono ?_); (case side1 => repeat (first | exact (Kd.R_reads' HO_8.out).2.2 | (with_reducible refine Kd.C_alloc ?_ _) | (with_reducible refine Kd.C_drewN ?_ _) | (with_reducible refine Kd.C_drew ?_))); (case side2 => exact (Kd.R_reads' HO_8.out).2.1); (case side3 => repeat (first | exact (Kd.R_reads' HO411.out).2.2 | (with_reducible refine Kd.C_alloc ?_ _) | (with_reducible refine Kd.C_drewN ?_ _) | (with_reducible refine Kd.C_drew ?_))); (case side4 => exact (Kd.R_reads' HO411.out).2.1); rintro e w' ⟨rfl, ⟨nd, rfl⟩⟩) | (go_at_call 16; (with_reducible refine (scan_Scanner_Waits.calls g396 x397000_19 x397001_19 t413 t414 t415 w _ ?side1 ?side2 A44.out).mono ?_); (case side1 => repeat (first | (with_reducible first | exact HI396.out | apply IsS58.alloc | apply IsS58.drewN | apply IsS58.drew | apply IsS58.set_0 | apply IsS58.set_1 | refine IsS58.far ?_ NB396_391.out _ | refine IsS58.far ?_ NB396_392.out _) | exact HI396.out)); (case side2 => repeat (first | (with_reducible first | exact HB.out | apply below_alloc | apply pw_below_drewN | apply below_drew1 | refine below_set ?_ (IsS58.ge HI396.out) | refine below_set ?_ GE391.out | refine below_set ?_ GE392.out) | exact HB.out)); rintro e w53 ⟨rfl, hi, hb, hk⟩; have n0_ := Aside0.mk (Kd.R_mono (Kd.R_keep (IsS58.apart (show IsS58 w _ g396 x397000_19 x397001_19 from by repeat (first | (with_reducible first | exact HI396.out | apply IsS58.alloc | apply IsS58.drewN | apply IsS58.drew | apply IsS58.set_0 | apply IsS58.set_1 | refine IsS58.far ?_ NB396_391.out _ | refine IsS58.far ?_ NB396_392.out _) | exact HI396.out)) (by (with_reducible repeat (first | apply Kd.R_alloc | apply Kd.R_drewN | apply Kd.R_drew)); exact HO_8.out) (by decide)) hk (fun _ h => h.2)) (fun _ h => h.1)); have n1_ := Aside0.mk (KeepBut.blk hk (g' := gb391) (o := .cells #[.int .i64 a0_0, .int .i64 a0_1, .int .i64 a0_2, .int .i64 a0_3, .int .i64 a0_4] 49 (0, 0)) (by (with_reducible repeat (first | refine blk_drewN ?_ _ | refine blk_drew ?_ | refine blk_alloc ?_ _)); exact BK391.out) NB391_396.out (by simp)); have n2_ := Aside0.mk (KeepBut.blk hk (g' := gb392) (o := .cells #[.int .i64 a1_0, .int .i64 a1_1, .int .i64 a1_2, .int .i64 a1_3, .int .i64 a1_4] 49 (0, 0)) (by (with_reducible repeat (first | refine blk_drewN ?_ _ | refine blk_drew ?_ | refine blk_alloc ?_ _)); exact BK392.out) NB392_396.out (by simp)); have n3_ := Aside0.mk (Kd.R_mono (Kd.R_keep (IsS58.apart (show IsS58 w _ g396 x397000_19 x397001_19 from by repeat (first | (with_reducible first | exact HI396.out | apply IsS58.alloc | apply IsS58.drewN | apply IsS58.drew | apply IsS58.set_0 | apply IsS58.set_1 | refine IsS58.far ?_ NB396_391.out _ | refine IsS58.far ?_ NB396_392.out _) | exact HI396.out)) (by (with_reducible repeat (first | apply Kd.R_alloc | apply Kd.R_drewN | apply Kd.R_drew)); exact HO411.out) (by decide)) hk (fun _ h => h.2)) (fun _ h => h.1)); have n4_ := Aside0.mk (hb); have n5_ := Aside0.mk (hi); clear HO_8; clear BK391; clear BK392; clear HO411; clear HB; clear HI396; have HO_8 := n0_; have BK391 := n1_; have BK392 := n2_; have HO411 := n3_; have HB := n4_; have HI396 := n5_; clear n0_ n1_ n2_ n3_ n4_ n5_; (try clear hb); (try clear hb2); (try clear hk); (try clear hi)))
              go_roundg kj19
              case measure => have := HK1.out; have := HJ19.out; omega
              case rel => exact ⟨(wrap64 (x7_1 + 1)), (t414), (t415), (by first | rfl | (simp; done) | (simp [*]; done)), H', ⟨by have := HK1.out; have := HJ19.out; omega⟩, ⟨by (with_reducible repeat (first | refine blk_drewN ?_ _ | refine blk_drew ?_ | refine blk_alloc ?_ _)); exact BK391.out⟩, ⟨by (with_reducible repeat (first | refine blk_drewN ?_ _ | refine blk_drew ?_ | refine blk_alloc ?_ _)); exact BK392.out⟩, ⟨by repeat (first | (with_reducible first | exact HI396.out | apply IsS58.alloc | apply IsS58.drewN | apply IsS58.drew | apply IsS58.set_0 | apply IsS58.set_1 | refine IsS58.far ?_ NB396_391.out _ | refine IsS58.far ?_ NB396_392.out _) | exact HI396.out)⟩, ⟨by repeat (first | (with_reducible first | exact HB.out | apply below_alloc | apply pw_below_drewN | apply below_drew1 | refine below_set ?_ (IsS58.ge HI396.out) | refine below_set ?_ GE391.out | refine below_set ?_ GE392.out) | exact HB.out)⟩⟩
             ·rw [if_neg c45] at H
              have c45b0 : (t413.toList == ([] : List UInt8)) = false := beq_eq_false_iff_ne.mpr c45
              have c45b1 : (t413.toList != ([] : List UInt8)) = true := bne_iff_ne.mpr c45
              first | exact absurd ((Option.some.inj H).trans HR_.out) (by decide) | skip
              all_goals
               obtain rfl := Option.some.inj H
               have hnb54 := NB391_392.out
               have hnc54 := NB392_391.out
               have hnb55 := NB391_396.out
               have hnc55 := NB396_391.out
               have hcz56_0 : wc.cell? ⟨gb391, 0, none⟩ = some (.int .i64 a0_0) := (blk_cell BK391.out 0).trans rfl
               have hcz56_1 : wc.cell? ⟨gb391, 1, none⟩ = some (.int .i64 a0_1) := (blk_cell BK391.out 1).trans rfl
               have hcz56_2 : wc.cell? ⟨gb391, 2, none⟩ = some (.int .i64 a0_2) := (blk_cell BK391.out 2).trans rfl
               have hcz56_3 : wc.cell? ⟨gb391, 3, none⟩ = some (.int .i64 a0_3) := (blk_cell BK391.out 3).trans rfl
               have hcz56_4 : wc.cell? ⟨gb391, 4, none⟩ = some (.int .i64 a0_4) := (blk_cell BK391.out 4).trans rfl
               have hfz56_0 := blk_frozen BK391.out 0
               have hfz56_1 := blk_frozen BK391.out 1
               have hfz56_2 := blk_frozen BK391.out 2
               have hfz56_3 := blk_frozen BK391.out 3
               have hfz56_4 := blk_frozen BK391.out 4
               go_wp2_with (first | ((with_reducible refine gate_dst (N := 66) rfl ?_); (try (refine gate_guard (by rfl) ?_; dsimp only)); refine Kd.R_lit k49 _ 49 ?hg (N := 66) ?hd (xs := ([(⟨a0_0, a0_1, a0_2, a0_3, a0_4⟩ : S49)] : List (S49))) (inner := [.int .i64 a0_0, .int .i64 a0_1, .int .i64 a0_2, .int .i64 a0_3, .int .i64 a0_4]) (ok := fun _ => True) (okp := fun _ => True) ?hr ?hp (fun _ hk => hk) trivial (Below.refl _ _) (Nat.le_refl _) (by simp) ?_; (case hd => rfl); (case hg => rfl); (case hr => first | (go_simp; done) | (go_simp; rfl)); (case hp => exact (Reps.c5 (show Kd.M k49 _ _ _ (⟨a0_0, a0_1, a0_2, a0_3, a0_4⟩ : S49) [.int .i64 a0_0, .int .i64 a0_1, .int .i64 a0_2, .int .i64 a0_3, .int .i64 a0_4] from (k49_mkM _ _ _ (⟨a0_0, a0_1, a0_2, a0_3, a0_4⟩ : S49) )) (Reps.none _ _))); intro v410 w57 ho58 hb hg_ hnew_; clear hg_ hnew_; (first | rw [← Ny409.out] at ho58 | (simp only [Int.reduceToNat] at ho58; rw [← Ny409.out] at ho58)); have n0_ := Aside0.mk (Kd.R_elder' (by (with_reducible repeat (first | apply Kd.R_alloc | apply Kd.R_drewN | apply Kd.R_drew)); exact HO_8.out) (Kd.R_base ho58) hb); have n1_ := Aside0.mk (Kd.R_lower (Kd.R_newB (Kd.R_newB (Kd.R_new' ho58 (Kd.R_lt (by (with_reducible repeat (first | apply Kd.R_alloc | apply Kd.R_drewN | apply Kd.R_drew)); exact HO_8.out))) (g := gb391) (o := .cells #[.int .i64 a0_0, .int .i64 a0_1, .int .i64 a0_2, .int .i64 a0_3, .int .i64 a0_4] 49 (0, 0)) (by (with_reducible repeat (first | refine blk_drewN ?_ _ | refine blk_drew ?_ | refine blk_alloc ?_ _)); exact BK391.out)) (g := gb392) (o := .cells #[.int .i64 a1_0, .int .i64 a1_1, .int .i64 a1_2, .int .i64 a1_3, .int .i64 a1_4] 49 (0, 0)) (by (with_reducible repeat (first | refine blk_drewN ?_ _ | refine blk_drew ?_ | refine blk_alloc ?_ _)); exact BK392.out)) (below_size (by repeat (first | (with_reducible first | exact HB.out | apply below_alloc | apply pw_below_drewN | apply below_drew1 | refine below_set ?_ (IsS58.ge HI396.out) | refine below_set ?_ GE391.out | refine below_set ?_ GE392.out) | exact HB.out)))); have n2_ := Aside0.mk (blk_below (g := gb391) (o := .cells #[.int .i64 a0_0, .int .i64 a0_1, .int .i64 a0_2, .int .i64 a0_3, .int .i64 a0_4] 49 (0, 0)) (by (with_reducible repeat (first | refine blk_drewN ?_ _ | refine blk_drew ?_ | refine blk_alloc ?_ _)); exact BK391.out) hb); have n3_ := Aside0.mk (blk_below (g := gb392) (o := .cells #[.int .i64 a1_0, .int .i64 a1_1, .int .i64 a1_2, .int .i64 a1_3, .int .i64 a1_4] 49 (0, 0)) (by (with_reducible repeat (first | refine blk_drewN ?_ _ | refine blk_drew ?_ | refine blk_alloc ?_ _)); exact BK392.out) hb); have n4_ := Aside0.mk (IsS58.below (by repeat (first | (with_reducible first | exact HI396.out | apply IsS58.alloc | apply IsS58.drewN | apply IsS58.drew | apply IsS58.set_0 | apply IsS58.set_1 | refine IsS58.far ?_ NB396_391.out _ | refine IsS58.far ?_ NB396_392.out _) | exact HI396.out)) hb); have n5_ := Aside0.mk (below_step (by repeat (first | (with_reducible first | exact HB.out | apply below_alloc | apply pw_below_drewN | apply below_drew1 | refine below_set ?_ (IsS58.ge HI396.out) | refine below_set ?_ GE391.out | refine below_set ?_ GE392.out) | exact HB.out)) hb); clear HO_8; clear BK391; clear BK392; clear HI396; clear HB; have HO_8 := n0_; have HO411 := n1_; have BK391 := n2_; have BK392 := n3_; have HI396 := n4_; have HB := n5_; clear n0_ n1_ n2_ n3_ n4_ n5_; clear hb ho58; obtain ⟨Ao59, co59, eo59⟩ := Kd.R_slice HO_8.out; subst eo59; obtain ⟨Ao60, co60, eo60⟩ := Kd.R_slice HO411.out; subst eo60) | (go_at_call 15; (with_reducible refine (bournelaw0_SameOps.calls kj19 _ _ t398 _ _ y409 true _ ?side1 ?side2 ?side3 ?side4 A42.out).mono ?_); (case side1 => repeat (first | exact (Kd.R_reads' HO_8.out).2.2 | (with_reducible refine Kd.C_alloc ?_ _) | (with_reducible refine Kd.C_drewN ?_ _) | (with_reducible refine Kd.C_drew ?_))); (case side2 => exact (Kd.R_reads' HO_8.out).2.1); (case side3 => repeat (first | exact (Kd.R_reads' HO411.out).2.2 | (with_reducible refine Kd.C_alloc ?_ _) | (with_reducible refine Kd.C_drewN ?_ _) | (with_reducible refine Kd.C_drew ?_))); (case side4 => exact (Kd.R_reads' HO411.out).2.1); rintro e w' ⟨rfl, ⟨nd, rfl⟩⟩) | (go_at_call 16; (with_reducible refine (scan_Scanner_Waits.calls g396 x397000_19 x397001_19 t413 t414 t415 w _ ?side1 ?side2 A44.out).mono ?_); (case side1 => repeat (first | (with_reducible first | exact HI396.out | apply IsS58.alloc | apply IsS58.drewN | apply IsS58.drew | apply IsS58.set_0 | apply IsS58.set_1 | refine IsS58.far ?_ NB396_391.out _ | refine IsS58.far ?_ NB396_392.out _) | exact HI396.out)); (case side2 => repeat (first | (with_reducible first | exact HB.out | apply below_alloc | apply pw_below_drewN | apply below_drew1 | refine below_set ?_ (IsS58.ge HI396.out) | refine below_set ?_ GE391.out | refine below_set ?_ GE392.out) | exact HB.out)); rintro e w61 ⟨rfl, hi, hb, hk⟩; have n0_ := Aside0.mk (Kd.R_mono (Kd.R_keep (IsS58.apart (show IsS58 w _ g396 x397000_19 x397001_19 from by repeat (first | (with_reducible first | exact HI396.out | apply IsS58.alloc | apply IsS58.drewN | apply IsS58.drew | apply IsS58.set_0 | apply IsS58.set_1 | refine IsS58.far ?_ NB396_391.out _ | refine IsS58.far ?_ NB396_392.out _) | exact HI396.out)) (by (with_reducible repeat (first | apply Kd.R_alloc | apply Kd.R_drewN | apply Kd.R_drew)); exact HO_8.out) (by decide)) hk (fun _ h => h.2)) (fun _ h => h.1)); have n1_ := Aside0.mk (KeepBut.blk hk (g' := gb391) (o := .cells #[.int .i64 a0_0, .int .i64 a0_1, .int .i64 a0_2, .int .i64 a0_3, .int .i64 a0_4] 49 (0, 0)) (by (with_reducible repeat (first | refine blk_drewN ?_ _ | refine blk_drew ?_ | refine blk_alloc ?_ _)); exact BK391.out) NB391_396.out (by simp)); have n2_ := Aside0.mk (KeepBut.blk hk (g' := gb392) (o := .cells #[.int .i64 a1_0, .int .i64 a1_1, .int .i64 a1_2, .int .i64 a1_3, .int .i64 a1_4] 49 (0, 0)) (by (with_reducible repeat (first | refine blk_drewN ?_ _ | refine blk_drew ?_ | refine blk_alloc ?_ _)); exact BK392.out) NB392_396.out (by simp)); have n3_ := Aside0.mk (Kd.R_mono (Kd.R_keep (IsS58.apart (show IsS58 w _ g396 x397000_19 x397001_19 from by repeat (first | (with_reducible first | exact HI396.out | apply IsS58.alloc | apply IsS58.drewN | apply IsS58.drew | apply IsS58.set_0 | apply IsS58.set_1 | refine IsS58.far ?_ NB396_391.out _ | refine IsS58.far ?_ NB396_392.out _) | exact HI396.out)) (by (with_reducible repeat (first | apply Kd.R_alloc | apply Kd.R_drewN | apply Kd.R_drew)); exact HO411.out) (by decide)) hk (fun _ h => h.2)) (fun _ h => h.1)); have n4_ := Aside0.mk (hb); have n5_ := Aside0.mk (hi); clear HO_8; clear BK391; clear BK392; clear HO411; clear HB; clear HI396; have HO_8 := n0_; have BK391 := n1_; have BK392 := n2_; have HO411 := n3_; have HB := n4_; have HI396 := n5_; clear n0_ n1_ n2_ n3_ n4_ n5_; (try clear hb); (try clear hb2); (try clear hk); (try clear hi)))
               go_ret
               exact ⟨by first | rfl | (simp [errW_none, errW_some] <;> rfl) | (simp [*, errW_none, errW_some] <;> rfl), by repeat (first | (with_reducible first | exact HB.out | apply below_alloc | apply pw_below_drewN | apply below_drew1 | refine below_set ?_ (IsS58.ge HI396.out) | refine below_set ?_ GE391.out | refine below_set ?_ GE392.out) | exact HB.out)⟩
            ·replace c43 := Bool.eq_false_iff.mpr c43
             subst c43
             have H1 : (some false) = some r := by rw [if_neg (show ¬ (false = true) by decide)] at H; exact H
             clear H
             have H := H1
             clear H1
             exact absurd ((Option.some.inj H).trans HR_.out) (by decide)
           ·rw [if_neg c41] at H
            have c41b0 : (x7_1 == (wrap64 ((t397.size : Int) - 1))) = false := beq_eq_false_iff_ne.mpr c41
            have c41b1 : (x7_1 != (wrap64 ((t397.size : Int) - 1))) = true := bne_iff_ne.mpr c41
            have H' := Aside0.mk H
            clear H
            go_wp2
            go_roundg kj19
            case measure => have := HK1.out; have := HJ19.out; omega
            case rel => exact ⟨(wrap64 (x7_1 + 1)), (x397000_19), (x397001_19), (by first | rfl | (simp; done) | (simp [*]; done)), H', ⟨by have := HK1.out; have := HJ19.out; omega⟩, ⟨by (with_reducible repeat (first | refine blk_drewN ?_ _ | refine blk_drew ?_ | refine blk_alloc ?_ _)); exact BK391.out⟩, ⟨by (with_reducible repeat (first | refine blk_drewN ?_ _ | refine blk_drew ?_ | refine blk_alloc ?_ _)); exact BK392.out⟩, ⟨by repeat (first | (with_reducible first | exact HI396.out | apply IsS58.alloc | apply IsS58.drewN | apply IsS58.drew | apply IsS58.set_0 | apply IsS58.set_1 | refine IsS58.far ?_ NB396_391.out _ | refine IsS58.far ?_ NB396_392.out _) | exact HI396.out)⟩, ⟨by repeat (first | (with_reducible first | exact HB.out | apply below_alloc | apply pw_below_drewN | apply below_drew1 | refine below_set ?_ (IsS58.ge HI396.out) | refine below_set ?_ GE391.out | refine below_set ?_ GE392.out) | exact HB.out)⟩⟩
       ·rw [if_neg c18] at H
        exact absurd H (by simp)
      ·rw [if_neg c17] at H
       exact absurd H (by simp)
     ·rw [if_neg c16] at H
      exact absurd H (by simp)
    ·rw [if_neg c15] at H
     have c15b0 : decide (x7_1 < (t397.size : Int)) = false := decide_eq_false c15
     clear c15
     replace H := Option.bind_eq_some_iff.mp H
     obtain ⟨t416, A690, H⟩ := H
     try dsimp only at H
     have A69 := Aside0.mk A690
     clear A690
     by_cases c70 : t416.toList = ([] : List UInt8)
     ·rw [if_pos c70] at H
      have c70b0 : (t416.toList == ([] : List UInt8)) = true := beq_iff_eq.mpr c70
      have c70b1 : (t416.toList != ([] : List UInt8)) = false := bne_eq_false_iff_eq.mpr c70
      clear c70
      replace H := Option.bind_eq_some_iff.mp H
      obtain ⟨⟨t417, t420, t421⟩, A710, H⟩ := H
      replace H : (some ((t417.length : Int) == 0)) = some r := H
      have A71 := Aside0.mk A710
      clear A710
      first | exact absurd ((Option.some.inj H).trans HR_.out) (by decide) | skip
      all_goals
       obtain rfl := Option.some.inj H
       have hnb72 := NB392_391.out
       have hnc72 := NB391_392.out
       have hnb73 := NB392_396.out
       have hnc73 := NB396_392.out
       have hcz74_0 : wr.cell? ⟨gb392, 0, none⟩ = some (.int .i64 a1_0) := (blk_cell BK392.out 0).trans rfl
       have hcz74_1 : wr.cell? ⟨gb392, 1, none⟩ = some (.int .i64 a1_1) := (blk_cell BK392.out 1).trans rfl
       have hcz74_2 : wr.cell? ⟨gb392, 2, none⟩ = some (.int .i64 a1_2) := (blk_cell BK392.out 2).trans rfl
       have hcz74_3 : wr.cell? ⟨gb392, 3, none⟩ = some (.int .i64 a1_3) := (blk_cell BK392.out 3).trans rfl
       have hcz74_4 : wr.cell? ⟨gb392, 4, none⟩ = some (.int .i64 a1_4) := (blk_cell BK392.out 4).trans rfl
       have hfz74_0 := blk_frozen BK392.out 0
       have hfz74_1 := blk_frozen BK392.out 1
       have hfz74_2 := blk_frozen BK392.out 2
       have hfz74_3 := blk_frozen BK392.out 3
       have hfz74_4 := blk_frozen BK392.out 4
       go_wp2_with (first | ((with_reducible refine gate_callee (f := 24) rfl ?_); refine goesL_ (some 76) rfl rfl Try.func24 (by kernel_rfl) rfl #[.agg #[.int .i64 a1_0, .int .i64 a1_1, .int .i64 a1_2, .int .i64 a1_3, .int .i64 a1_4]] rfl (by (try simp only [List.map_toArray, List.map_cons, List.map_nil]); first | done | rfl | (simp only [List.length_drop, List.length_take]; rfl)) ?_; (with_reducible refine (bournelaw11_framed.calls k1 a1_0 a1_1 a1_2 a1_3 a1_4 t416 _ A69.out).mono ?_); rintro e w75 ⟨rfl, hb⟩; refine ⟨_, rfl, ?_⟩; have n0_ := Aside0.mk (blk_below (g := gb391) (o := .cells #[.int .i64 a0_0, .int .i64 a0_1, .int .i64 a0_2, .int .i64 a0_3, .int .i64 a0_4] 49 (0, 0)) (by (with_reducible repeat (first | refine blk_drewN ?_ _ | refine blk_drew ?_ | refine blk_alloc ?_ _)); exact BK391.out) hb); have n1_ := Aside0.mk (blk_below (g := gb392) (o := .cells #[.int .i64 a1_0, .int .i64 a1_1, .int .i64 a1_2, .int .i64 a1_3, .int .i64 a1_4] 49 (0, 0)) (by (with_reducible repeat (first | refine blk_drewN ?_ _ | refine blk_drew ?_ | refine blk_alloc ?_ _)); exact BK392.out) hb); have n2_ := Aside0.mk (IsS58.below (by repeat (first | (with_reducible first | exact HI396.out | apply IsS58.alloc | apply IsS58.drewN | apply IsS58.drew | apply IsS58.set_0 | apply IsS58.set_1 | refine IsS58.far ?_ NB396_391.out _ | refine IsS58.far ?_ NB396_392.out _) | exact HI396.out)) hb); have n3_ := Aside0.mk (below_step (by repeat (first | (with_reducible first | exact HB.out | apply below_alloc | apply pw_below_drewN | apply below_drew1 | refine below_set ?_ (IsS58.ge HI396.out) | refine below_set ?_ GE391.out | refine below_set ?_ GE392.out) | exact HB.out)) hb); clear BK391; clear BK392; clear HI396; clear HB; have BK391 := n0_; have BK392 := n1_; have HI396 := n2_; have HB := n3_; clear n0_ n1_ n2_ n3_; (try clear hb); (try clear hb2); (try clear hk); (try clear hi)) | ((with_reducible refine gate_callee (f := 13) rfl ?_); refine goesL_ (some 80) rfl rfl Try.func13 (by kernel_rfl) rfl #[.pointer (some ⟨g396, 0, none⟩), .string (⟨#[]⟩ : ByteArray)] rfl (by (try simp only [List.map_toArray, List.map_cons, List.map_nil]); first | done | rfl | (simp only [List.length_drop, List.length_take]; rfl)) ?_; (with_reducible refine (scan_Scanner_Write.calls k1 g396 x397000_1 x397001_1 (⟨#[]⟩ : ByteArray) t417 t420 t421 w _ ?side1 ?side2 A71.out).mono ?_); (case side1 => repeat (first | (with_reducible first | exact HI396.out | apply IsS58.alloc | apply IsS58.drewN | apply IsS58.drew | apply IsS58.set_0 | apply IsS58.set_1 | refine IsS58.far ?_ NB396_391.out _ | refine IsS58.far ?_ NB396_392.out _) | exact HI396.out)); (case side2 => repeat (first | (with_reducible first | exact HB.out | apply below_alloc | apply pw_below_drewN | apply below_drew1 | refine below_set ?_ (IsS58.ge HI396.out) | refine below_set ?_ GE391.out | refine below_set ?_ GE392.out) | exact HB.out)); rintro e w76 ⟨v418, rfl, ho0, hi, hb, hk⟩; refine ⟨_, rfl, ?_⟩; have n0_ := Aside0.mk (KeepBut.blk hk (g' := gb391) (o := .cells #[.int .i64 a0_0, .int .i64 a0_1, .int .i64 a0_2, .int .i64 a0_3, .int .i64 a0_4] 49 (0, 0)) (by (with_reducible repeat (first | refine blk_drewN ?_ _ | refine blk_drew ?_ | refine blk_alloc ?_ _)); exact BK391.out) NB391_396.out (by simp)); have n1_ := Aside0.mk (KeepBut.blk hk (g' := gb392) (o := .cells #[.int .i64 a1_0, .int .i64 a1_1, .int .i64 a1_2, .int .i64 a1_3, .int .i64 a1_4] 49 (0, 0)) (by (with_reducible repeat (first | refine blk_drewN ?_ _ | refine blk_drew ?_ | refine blk_alloc ?_ _)); exact BK392.out) NB392_396.out (by simp)); have n2_ := Aside0.mk (Kd.R_lower (Kd.R_newB (Kd.R_newB ho0 (g := gb391) (o := .cells #[.int .i64 a0_0, .int .i64 a0_1, .int .i64 a0_2, .int .i64 a0_3, .int .i64 a0_4] 49 (0, 0)) (by (with_reducible repeat (first | refine blk_drewN ?_ _ | refine blk_drew ?_ | refine blk_alloc ?_ _)); exact BK391.out)) (g := gb392) (o := .cells #[.int .i64 a1_0, .int .i64 a1_1, .int .i64 a1_2, .int .i64 a1_3, .int .i64 a1_4] 49 (0, 0)) (by (with_reducible repeat (first | refine blk_drewN ?_ _ | refine blk_drew ?_ | refine blk_alloc ?_ _)); exact BK392.out)) (below_size (by repeat (first | (with_reducible first | exact HB.out | apply below_alloc | apply pw_below_drewN | apply below_drew1 | refine below_set ?_ (IsS58.ge HI396.out) | refine below_set ?_ GE391.out | refine below_set ?_ GE392.out) | exact HB.out)))); have n3_ := Aside0.mk (hb); have n4_ := Aside0.mk (hi); clear BK391; clear BK392; clear HB; clear HI396; have BK391 := n0_; have BK392 := n1_; have HO419 := n2_; have HB := n3_; have HI396 := n4_; clear n0_ n1_ n2_ n3_ n4_; (try clear hb); (try clear hb2); (try clear hk); (try clear hi); (try clear ho0); obtain ⟨Ao77, co77, eo77⟩ := Kd.R_slice HO419.out; subst eo77))
       go_ret
       exact ⟨by first | rfl | (simp [errW_none, errW_some] <;> rfl) | (simp [*, errW_none, errW_some] <;> rfl), by repeat (first | (with_reducible first | exact HB.out | apply below_alloc | apply pw_below_drewN | apply below_drew1 | refine below_set ?_ (IsS58.ge HI396.out) | refine below_set ?_ GE391.out | refine below_set ?_ GE392.out) | exact HB.out)⟩
     ·rw [if_neg c70] at H
      have c70b0 : (t416.toList == ([] : List UInt8)) = false := beq_eq_false_iff_ne.mpr c70
      have c70b1 : (t416.toList != ([] : List UInt8)) = true := bne_iff_ne.mpr c70
      obtain ⟨ji78, hji78⟩ : ∃ j_ : Int, (wrap64 ((t416.size : Int) - 1)) = j_ := ⟨_, rfl⟩
      replace H : (if 0 ≤ (ji78) then (if (ji78) ≤ (t416.size : Int) then ((scan_Scanner_Write.f k1 x397000_1 x397001_1 (t416.extract 0 ((ji78) : Int).toNat)).bind fun bt422 => ((scan_Scanner_Close.f k1 bt422.2.1 bt422.2.2).bind fun bt427 => (bournelaw11_ScanCut.l1 k1 t416 bt422.1 bt427.1 0 0 bt427.2.1 bt427.2.2))) else (none)) else (none)) = some r := by first | (rw [hji78] at H; exact H) | (simp only [hji78] at H ⊢; exact H)
      (try rw [hji78] at A69)
      have hji78w : (IntKind.i64.wrap ((t416.size : Int) - 1)) = ji78 := (i64_w _).trans hji78
      by_cases c79 : 0 ≤ (ji78)
      ·rw [if_pos c79] at H
       have c79b0 := eq_true c79
       have c79b1 : decide (0 ≤ (ji78)) = true := decide_eq_true c79
       clear c79
       by_cases c80 : (ji78) ≤ (t416.size : Int)
       ·rw [if_pos c80] at H
        have c80b0 := eq_true c80
        have c80b1 : decide ((ji78) ≤ (t416.size : Int)) = true := decide_eq_true c80
        clear c80
        replace H := Option.bind_eq_some_iff.mp H
        obtain ⟨⟨t422, t425, t426⟩, A810, H⟩ := H
        replace H : ((scan_Scanner_Close.f k1 t425 t426).bind fun bt427 => (bournelaw11_ScanCut.l1 k1 t416 t422 bt427.1 0 0 bt427.2.1 bt427.2.2)) = some r := H
        have A81 := Aside0.mk A810
        clear A810
        replace H := Option.bind_eq_some_iff.mp H
        obtain ⟨⟨t427, t430, t431⟩, A820, H⟩ := H
        replace H : (bournelaw11_ScanCut.l1 k1 t416 t422 t427 0 0 t430 t431) = some r := H
        have A82 := Aside0.mk A820
        clear A820
        have H' := Aside0.mk H
        clear H
        have hnb83 := NB392_391.out
        have hnc83 := NB391_392.out
        have hnb84 := NB392_396.out
        have hnc84 := NB396_392.out
        have hcz85_0 : wr.cell? ⟨gb392, 0, none⟩ = some (.int .i64 a1_0) := (blk_cell BK392.out 0).trans rfl
        have hcz85_1 : wr.cell? ⟨gb392, 1, none⟩ = some (.int .i64 a1_1) := (blk_cell BK392.out 1).trans rfl
        have hcz85_2 : wr.cell? ⟨gb392, 2, none⟩ = some (.int .i64 a1_2) := (blk_cell BK392.out 2).trans rfl
        have hcz85_3 : wr.cell? ⟨gb392, 3, none⟩ = some (.int .i64 a1_3) := (blk_cell BK392.out 3).trans rfl
        have hcz85_4 : wr.cell? ⟨gb392, 4, none⟩ = some (.int .i64 a1_4) := (blk_cell BK392.out 4).trans rfl
        have hfz85_0 := blk_frozen BK392.out 0
        have hfz85_1 := blk_frozen BK392.out 1
        have hfz85_2 := blk_frozen BK392.out 2
        have hfz85_3 := blk_frozen BK392.out 3
        have hfz85_4 := blk_frozen BK392.out 4
        go_wp2_with (first | ((with_reducible refine gate_callee (f := 24) rfl ?_); refine goesL_ (some 76) rfl rfl Try.func24 (by kernel_rfl) rfl #[.agg #[.int .i64 a1_0, .int .i64 a1_1, .int .i64 a1_2, .int .i64 a1_3, .int .i64 a1_4]] rfl (by (try simp only [List.map_toArray, List.map_cons, List.map_nil]); first | done | rfl | (simp only [List.length_drop, List.length_take]; rfl)) ?_; (with_reducible refine (bournelaw11_framed.calls k1 a1_0 a1_1 a1_2 a1_3 a1_4 t416 _ A69.out).mono ?_); rintro e w86 ⟨rfl, hb⟩; refine ⟨_, rfl, ?_⟩; have n0_ := Aside0.mk (blk_below (g := gb391) (o := .cells #[.int .i64 a0_0, .int .i64 a0_1, .int .i64 a0_2, .int .i64 a0_3, .int .i64 a0_4] 49 (0, 0)) (by (with_reducible repeat (first | refine blk_drewN ?_ _ | refine blk_drew ?_ | refine blk_alloc ?_ _)); exact BK391.out) hb); have n1_ := Aside0.mk (blk_below (g := gb392) (o := .cells #[.int .i64 a1_0, .int .i64 a1_1, .int .i64 a1_2, .int .i64 a1_3, .int .i64 a1_4] 49 (0, 0)) (by (with_reducible repeat (first | refine blk_drewN ?_ _ | refine blk_drew ?_ | refine blk_alloc ?_ _)); exact BK392.out) hb); have n2_ := Aside0.mk (IsS58.below (by repeat (first | (with_reducible first | exact HI396.out | apply IsS58.alloc | apply IsS58.drewN | apply IsS58.drew | apply IsS58.set_0 | apply IsS58.set_1 | refine IsS58.far ?_ NB396_391.out _ | refine IsS58.far ?_ NB396_392.out _) | exact HI396.out)) hb); have n3_ := Aside0.mk (below_step (by repeat (first | (with_reducible first | exact HB.out | apply below_alloc | apply pw_below_drewN | apply below_drew1 | refine below_set ?_ (IsS58.ge HI396.out) | refine below_set ?_ GE391.out | refine below_set ?_ GE392.out) | exact HB.out)) hb); clear BK391; clear BK392; clear HI396; clear HB; have BK391 := n0_; have BK392 := n1_; have HI396 := n2_; have HB := n3_; clear n0_ n1_ n2_ n3_; (try clear hb); (try clear hb2); (try clear hk); (try clear hi)) | ((with_reducible refine gate_callee (f := 13) rfl ?_); refine goesL_ (some 89) rfl rfl Try.func13 (by kernel_rfl) rfl #[.pointer (some ⟨g396, 0, none⟩), .string (t416.extract 0 ((ji78) : Int).toNat)] rfl (by (try simp only [List.map_toArray, List.map_cons, List.map_nil]); first | done | (simp only [hji78]; rfl) | rfl | (simp only [List.length_drop, List.length_take]; rfl)) ?_; (with_reducible refine (scan_Scanner_Write.calls k1 g396 x397000_1 x397001_1 (t416.extract 0 ((ji78) : Int).toNat) t422 t425 t426 w _ ?side1 ?side2 A81.out).mono ?_); (case side1 => repeat (first | (with_reducible first | exact HI396.out | apply IsS58.alloc | apply IsS58.drewN | apply IsS58.drew | apply IsS58.set_0 | apply IsS58.set_1 | refine IsS58.far ?_ NB396_391.out _ | refine IsS58.far ?_ NB396_392.out _) | exact HI396.out)); (case side2 => repeat (first | (with_reducible first | exact HB.out | apply below_alloc | apply pw_below_drewN | apply below_drew1 | refine below_set ?_ (IsS58.ge HI396.out) | refine below_set ?_ GE391.out | refine below_set ?_ GE392.out) | exact HB.out)); rintro e w87 ⟨v423, rfl, ho0, hi, hb, hk⟩; refine ⟨_, rfl, ?_⟩; have n0_ := Aside0.mk (KeepBut.blk hk (g' := gb391) (o := .cells #[.int .i64 a0_0, .int .i64 a0_1, .int .i64 a0_2, .int .i64 a0_3, .int .i64 a0_4] 49 (0, 0)) (by (with_reducible repeat (first | refine blk_drewN ?_ _ | refine blk_drew ?_ | refine blk_alloc ?_ _)); exact BK391.out) NB391_396.out (by simp)); have n1_ := Aside0.mk (KeepBut.blk hk (g' := gb392) (o := .cells #[.int .i64 a1_0, .int .i64 a1_1, .int .i64 a1_2, .int .i64 a1_3, .int .i64 a1_4] 49 (0, 0)) (by (with_reducible repeat (first | refine blk_drewN ?_ _ | refine blk_drew ?_ | refine blk_alloc ?_ _)); exact BK392.out) NB392_396.out (by simp)); have n2_ := Aside0.mk (Kd.R_lower (Kd.R_newB (Kd.R_newB ho0 (g := gb391) (o := .cells #[.int .i64 a0_0, .int .i64 a0_1, .int .i64 a0_2, .int .i64 a0_3, .int .i64 a0_4] 49 (0, 0)) (by (with_reducible repeat (first | refine blk_drewN ?_ _ | refine blk_drew ?_ | refine blk_alloc ?_ _)); exact BK391.out)) (g := gb392) (o := .cells #[.int .i64 a1_0, .int .i64 a1_1, .int .i64 a1_2, .int .i64 a1_3, .int .i64 a1_4] 49 (0, 0)) (by (with_reducible repeat (first | refine blk_drewN ?_ _ | refine blk_drew ?_ | refine blk_alloc ?_ _)); exact BK392.out)) (below_size (by repeat (first | (with_reducible first | exact HB.out | apply below_alloc | apply pw_below_drewN | apply below_drew1 | refine below_set ?_ (IsS58.ge HI396.out) | refine below_set ?_ GE391.out | refine below_set ?_ GE392.out) | exact HB.out)))); have n3_ := Aside0.mk (hb); have n4_ := Aside0.mk (hi); clear BK391; clear BK392; clear HB; clear HI396; have BK391 := n0_; have BK392 := n1_; have HO424 := n2_; have HB := n3_; have HI396 := n4_; clear n0_ n1_ n2_ n3_ n4_; (try clear hb); (try clear hb2); (try clear hk); (try clear hi); (try clear ho0)) | ((with_reducible refine gate_callee (f := 19) rfl ?_); refine goesL_ (some 91) rfl rfl Try.func19 (by kernel_rfl) rfl #[.pointer (some ⟨g396, 0, none⟩)] rfl (by (try simp only [List.map_toArray, List.map_cons, List.map_nil]); first | done | rfl | (simp only [List.length_drop, List.length_take]; rfl)) ?_; (with_reducible refine (scan_Scanner_Close.calls k1 g396 t425 t426 t427 t430 t431 w _ ?side1 ?side2 A82.out).mono ?_); (case side1 => repeat (first | (with_reducible first | exact HI396.out | apply IsS58.alloc | apply IsS58.drewN | apply IsS58.drew | apply IsS58.set_0 | apply IsS58.set_1 | refine IsS58.far ?_ NB396_391.out _ | refine IsS58.far ?_ NB396_392.out _) | exact HI396.out)); (case side2 => repeat (first | (with_reducible first | exact HB.out | apply below_alloc | apply pw_below_drewN | apply below_drew1 | refine below_set ?_ (IsS58.ge HI396.out) | refine below_set ?_ GE391.out | refine below_set ?_ GE392.out) | exact HB.out)); rintro e w88 ⟨v428, rfl, ho0, hi, hb, hk⟩; refine ⟨_, rfl, ?_⟩; have n0_ := Aside0.mk (KeepBut.blk hk (g' := gb391) (o := .cells #[.int .i64 a0_0, .int .i64 a0_1, .int .i64 a0_2, .int .i64 a0_3, .int .i64 a0_4] 49 (0, 0)) (by (with_reducible repeat (first | refine blk_drewN ?_ _ | refine blk_drew ?_ | refine blk_alloc ?_ _)); exact BK391.out) NB391_396.out (by simp)); have n1_ := Aside0.mk (KeepBut.blk hk (g' := gb392) (o := .cells #[.int .i64 a1_0, .int .i64 a1_1, .int .i64 a1_2, .int .i64 a1_3, .int .i64 a1_4] 49 (0, 0)) (by (with_reducible repeat (first | refine blk_drewN ?_ _ | refine blk_drew ?_ | refine blk_alloc ?_ _)); exact BK392.out) NB392_396.out (by simp)); have n2_ := Aside0.mk (Kd.R_mono (Kd.R_told (Kd.R_oldK (IsS58.apart (show IsS58 w _ g396 t425 t426 from by repeat (first | (with_reducible first | exact HI396.out | apply IsS58.alloc | apply IsS58.drewN | apply IsS58.drew | apply IsS58.set_0 | apply IsS58.set_1 | refine IsS58.far ?_ NB396_391.out _ | refine IsS58.far ?_ NB396_392.out _) | exact HI396.out)) (by (with_reducible repeat (first | apply Kd.R_alloc | apply Kd.R_drewN | apply Kd.R_drew)); exact HO424.out) (by decide)) hk) (Kd.R_base ho0)) (fun _ h_ => h_.1)); have n3_ := Aside0.mk (Kd.R_lower (Kd.R_newB (Kd.R_newB (Kd.R_new' ho0 (Kd.R_lt (by (with_reducible repeat (first | apply Kd.R_alloc | apply Kd.R_drewN | apply Kd.R_drew)); exact HO424.out))) (g := gb391) (o := .cells #[.int .i64 a0_0, .int .i64 a0_1, .int .i64 a0_2, .int .i64 a0_3, .int .i64 a0_4] 49 (0, 0)) (by (with_reducible repeat (first | refine blk_drewN ?_ _ | refine blk_drew ?_ | refine blk_alloc ?_ _)); exact BK391.out)) (g := gb392) (o := .cells #[.int .i64 a1_0, .int .i64 a1_1, .int .i64 a1_2, .int .i64 a1_3, .int .i64 a1_4] 49 (0, 0)) (by (with_reducible repeat (first | refine blk_drewN ?_ _ | refine blk_drew ?_ | refine blk_alloc ?_ _)); exact BK392.out)) (below_size (by repeat (first | (with_reducible first | exact HB.out | apply below_alloc | apply pw_below_drewN | apply below_drew1 | refine below_set ?_ (IsS58.ge HI396.out) | refine below_set ?_ GE391.out | refine below_set ?_ GE392.out) | exact HB.out)))); have n4_ := Aside0.mk (hb); have n5_ := Aside0.mk (hi); clear BK391; clear BK392; clear HO424; clear HB; clear HI396; have BK391 := n0_; have BK392 := n1_; have HO424 := n2_; have HO429 := n3_; have HB := n4_; have HI396 := n5_; clear n0_ n1_ n2_ n3_ n4_ n5_; (try clear hb); (try clear hb2); (try clear hk); (try clear hi); (try clear ho0)))
        go_loopg [12, 13] k1 (fun kq v12 v13 w' => ∃ (x12_2 : Int) (x13_2 : Int), v12 = .int .i64 x12_2 ∧ v13 = .int .i64 x13_2 ∧ Aside0 (bournelaw11_ScanCut.l1 kq t416 t422 t427 x12_2 x13_2 t430 t431 = some r) ∧ Aside0 (kq ≤ k1) ∧ Aside0 (Kd.R k49 49 w' w.heap.size (fun k_ => some k_ ≠ (v428 : Value).ownBlock ∧ k_ ≠ gb391 ∧ k_ ≠ gb392) v423 t422) ∧ Aside0 (Kd.R k49 49 w' w.heap.size (fun k_ => some k_ ≠ (v423 : Value).ownBlock ∧ k_ ≠ gb391 ∧ k_ ≠ gb392) v428 t427) ∧ Aside0 (w'.heap[gb391]? = some (.cells #[.int .i64 a0_0, .int .i64 a0_1, .int .i64 a0_2, .int .i64 a0_3, .int .i64 a0_4] 49 (0, 0))) ∧ Aside0 (w'.heap[gb392]? = some (.cells #[.int .i64 a1_0, .int .i64 a1_1, .int .i64 a1_2, .int .i64 a1_3, .int .i64 a1_4] 49 (0, 0))) ∧ Aside0 (IsS58 w w' g396 t430 t431) ∧ Aside0 (Below w.heap.size w w'))
        case atStart => exact ⟨(0), (0), (by first | rfl | (simp; done) | (simp [*]; done)), (by first | rfl | (simp; done) | (simp [*]; done)), H', ⟨Nat.le_refl _⟩, ⟨by (with_reducible repeat (first | apply Kd.R_alloc | apply Kd.R_drewN | apply Kd.R_drew)); exact Kd.R_mono HO424.out (fun _ hk => ⟨hk.2, ⟨hk.1.1.2, hk.1.2⟩⟩)⟩, ⟨by (with_reducible repeat (first | apply Kd.R_alloc | apply Kd.R_drewN | apply Kd.R_drew)); exact Kd.R_mono HO429.out (fun _ hk => ⟨hk.1.1.2, ⟨hk.1.2, hk.2⟩⟩)⟩, ⟨by (with_reducible repeat (first | refine blk_drewN ?_ _ | refine blk_drew ?_ | refine blk_alloc ?_ _)); exact BK391.out⟩, ⟨by (with_reducible repeat (first | refine blk_drewN ?_ _ | refine blk_drew ?_ | refine blk_alloc ?_ _)); exact BK392.out⟩, ⟨by repeat (first | (with_reducible first | exact HI396.out | apply IsS58.alloc | apply IsS58.drewN | apply IsS58.drew | apply IsS58.set_0 | apply IsS58.set_1 | refine IsS58.far ?_ NB396_391.out _ | refine IsS58.far ?_ NB396_392.out _) | exact HI396.out)⟩, ⟨by repeat (first | (with_reducible first | exact HB.out | apply below_alloc | apply pw_below_drewN | apply below_drew1 | refine below_set ?_ (IsS58.ge HI396.out) | refine below_set ?_ GE391.out | refine below_set ?_ GE392.out) | exact HB.out)⟩⟩
        case round =>
         clear H'
         try clear c1
         try clear c2
         try clear p2
         try clear c4
         try clear c5
         try clear c6
         try clear p6
         try clear c7
         try clear c8
         try clear c13
         try clear c15
         try clear c15b0
         try clear c16
         try clear c17
         try clear c18
         try clear c19
         try clear c22
         try clear c22b0
         try clear c23
         try clear c23b0
         try clear c23b1
         try clear c23b2
         try clear c24
         try clear c26
         try clear c28
         try clear c28b0
         try clear c28b1
         try clear c40
         try clear c41
         try clear c41b0
         try clear c41b1
         try clear c43
         try clear c45
         try clear c45b0
         try clear c45b1
         try clear c46
         try clear c47
         try clear c54
         try clear c55
         try clear c62
         try clear c63
         try clear p64
         try clear c70
         try clear c70b0
         try clear c70b1
         try clear c72
         try clear c73
         try clear c79
         try clear c79b0
         try clear c79b1
         try clear c80
         try clear c80b0
         try clear c80b1
         try clear c83
         try clear c84
         try clear hcz48_0
         try clear hcz48_1
         try clear hcz48_2
         try clear hcz48_3
         try clear hcz48_4
         try clear hcz56_0
         try clear hcz56_1
         try clear hcz56_2
         try clear hcz56_3
         try clear hcz56_4
         try clear hcz64_0
         try clear hcz64_1
         try clear hcz64_2
         try clear hcz64_3
         try clear hcz64_4
         try clear hcz74_0
         try clear hcz74_1
         try clear hcz74_2
         try clear hcz74_3
         try clear hcz74_4
         try clear hcz85_0
         try clear hcz85_1
         try clear hcz85_2
         try clear hcz85_3
         try clear hcz85_4
         try clear hfz48_0
         try clear hfz48_1
         try clear hfz48_2
         try clear hfz48_3
         try clear hfz48_4
         try clear hfz56_0
         try clear hfz56_1
         try clear hfz56_2
         try clear hfz56_3
         try clear hfz56_4
         try clear hfz64_0
         try clear hfz64_1
         try clear hfz64_2
         try clear hfz64_3
         try clear hfz64_4
         try clear hfz74_0
         try clear hfz74_1
         try clear hfz74_2
         try clear hfz74_3
         try clear hfz74_4
         try clear hfz85_0
         try clear hfz85_1
         try clear hfz85_2
         try clear hfz85_3
         try clear hfz85_4
         try clear p2
         try clear p6
         obtain ⟨x12_2, x13_2, rfl, rfl, HA, HK2, HO_10, HO_11, BK391, BK392, HI396, HB⟩ := hrel
         cases gk with
         | zero => exact absurd HA.out (by simp [bournelaw11_ScanCut.l1])
          | succ k2 =>
          have H := HA.out
          clear HA
          simp only [bournelaw11_ScanCut.l1] at H
          by_cases c89 : x13_2 < (t427.length : Int)
          ·rw [if_pos c89] at H
           have c89b0 : decide (x13_2 < (t427.length : Int)) = true := decide_eq_true c89
           clear c89
           by_cases c90 : 0 ≤ x13_2
           ·rw [if_pos c90] at H
            have c90b0 : decide (0 ≤ x13_2) = true := decide_eq_true c90
            clear c90
            by_cases c91 : ((rd_T49 t427 x13_2).f0) = 3
            ·rw [if_pos c91] at H
             have c91b0 : (((rd_T49 t427 x13_2).f0) == 3) = true := beq_iff_eq.mpr c91
             have c91b1 : (((rd_T49 t427 x13_2).f0) != 3) = false := bne_eq_false_iff_eq.mpr c91
             clear c91
             have H' := Aside0.mk H
             clear H
             obtain ⟨Ao92, co92, eo92⟩ := Kd.R_slice HO_11.out
             subst eo92
             have p432 : 0 ≤ (x13_2 : Int) := of_decide_eq_true (by first | (with_reducible assumption) | assumption)
             have q432 : x13_2 < (t427.length : Int) := of_decide_eq_true (by first | (with_reducible assumption) | assumption)
             obtain ⟨ad432, e432, hx432_0, hx432_1, hx432_2, hx432_3, hx432_4⟩ := at_T49 (Kd.R_reads' HO_11.out).2.2 x13_2 p432 q432
             cases e432
             replace p432 := eq_true p432
             replace q432 := eq_true q432
             have p433 : 0 ≤ (x13_2 : Int) := of_decide_eq_true (by first | (with_reducible assumption) | assumption)
             have q433 : x13_2 < (t427.length : Int) := of_decide_eq_true (by first | (with_reducible assumption) | assumption)
             obtain ⟨ad433, e433, hx433_0, hx433_1, hx433_2, hx433_3, hx433_4⟩ := at_T49 (Kd.R_reads' HO_11.out).2.2 x13_2 p433 q433
             obtain rfl : ad432 = ad433 := (by injection e433)
             replace p433 := eq_true p433
             replace q433 := eq_true q433
             go_wp2
             go_roundg k2
             case measure => have := HK1.out; have := HK2.out; omega
             case rel => exact ⟨(wrap64 (x12_2 + ((rd_T49 t427 x13_2).f4))), (wrap64 (x13_2 + 1)), (by first | rfl | (simp; done) | (simp [*]; done)), (by first | rfl | (simp; done) | (simp [*]; done)), H', ⟨by have := HK1.out; have := HK2.out; omega⟩, ⟨by (with_reducible repeat (first | apply Kd.R_alloc | apply Kd.R_drewN | apply Kd.R_drew)); exact HO_10.out⟩, ⟨by (with_reducible repeat (first | apply Kd.R_alloc | apply Kd.R_drewN | apply Kd.R_drew)); exact HO_11.out⟩, ⟨by (with_reducible repeat (first | refine blk_drewN ?_ _ | refine blk_drew ?_ | refine blk_alloc ?_ _)); exact BK391.out⟩, ⟨by (with_reducible repeat (first | refine blk_drewN ?_ _ | refine blk_drew ?_ | refine blk_alloc ?_ _)); exact BK392.out⟩, ⟨by repeat (first | (with_reducible first | exact HI396.out | apply IsS58.alloc | apply IsS58.drewN | apply IsS58.drew | apply IsS58.set_0 | apply IsS58.set_1 | refine IsS58.far ?_ NB396_391.out _ | refine IsS58.far ?_ NB396_392.out _) | exact HI396.out)⟩, ⟨by repeat (first | (with_reducible first | exact HB.out | apply below_alloc | apply pw_below_drewN | apply below_drew1 | refine below_set ?_ (IsS58.ge HI396.out) | refine below_set ?_ GE391.out | refine below_set ?_ GE392.out) | exact HB.out)⟩⟩
            ·rw [if_neg c91] at H
             have c91b0 : (((rd_T49 t427 x13_2).f0) == 3) = false := beq_eq_false_iff_ne.mpr c91
             have c91b1 : (((rd_T49 t427 x13_2).f0) != 3) = true := bne_iff_ne.mpr c91
             replace H := Option.bind_eq_some_iff.mp H
             obtain ⟨t435, A930, H⟩ := H
             replace H : (bournelaw11_ScanCut.l1 k2 t416 t422 t427 (wrap64 (x12_2 + (t435.size : Int))) (wrap64 (x13_2 + 1)) t430 t431) = some r := H
             have A93 := Aside0.mk A930
             clear A930
             have H' := Aside0.mk H
             clear H
             obtain ⟨Ao94, co94, eo94⟩ := Kd.R_slice HO_11.out
             subst eo94
             have p432 : 0 ≤ (x13_2 : Int) := of_decide_eq_true (by first | (with_reducible assumption) | assumption)
             have q432 : x13_2 < (t427.length : Int) := of_decide_eq_true (by first | (with_reducible assumption) | assumption)
             obtain ⟨ad432, e432, hx432_0, hx432_1, hx432_2, hx432_3, hx432_4⟩ := at_T49 (Kd.R_reads' HO_11.out).2.2 x13_2 p432 q432
             cases e432
             replace p432 := eq_true p432
             replace q432 := eq_true q432
             have p434 : 0 ≤ (x13_2 : Int) := of_decide_eq_true (by first | (with_reducible assumption) | assumption)
             have q434 : x13_2 < (t427.length : Int) := of_decide_eq_true (by first | (with_reducible assumption) | assumption)
             obtain ⟨ad434, e434, hx434_0, hx434_1, hx434_2, hx434_3, hx434_4⟩ := at_T49 (Kd.R_reads' HO_11.out).2.2 x13_2 p434 q434
             obtain rfl : ad432 = ad434 := (by injection e434)
             replace p434 := eq_true p434
             replace q434 := eq_true q434
             go_wp2_with (first | ((with_reducible refine gate_callee (f := 24) rfl ?_); refine goesL_ (some 116) rfl rfl Try.func24 (by kernel_rfl) rfl #[.agg #[.int .i64 ((rd_T49 t427 x13_2).f0), .int .i64 ((rd_T49 t427 x13_2).f1), .int .i64 ((rd_T49 t427 x13_2).f2), .int .i64 ((rd_T49 t427 x13_2).f3), .int .i64 ((rd_T49 t427 x13_2).f4)]] rfl (by (try simp only [List.map_toArray, List.map_cons, List.map_nil]); first | done | rfl | (simp only [List.length_drop, List.length_take]; rfl)) ?_; (with_reducible refine (bournelaw11_framed.calls k2 ((rd_T49 t427 x13_2).f0) ((rd_T49 t427 x13_2).f1) ((rd_T49 t427 x13_2).f2) ((rd_T49 t427 x13_2).f3) ((rd_T49 t427 x13_2).f4) t435 _ A93.out).mono ?_); rintro e w95 ⟨rfl, hb⟩; refine ⟨_, rfl, ?_⟩; have n0_ := Aside0.mk (Kd.R_below (by (with_reducible repeat (first | apply Kd.R_alloc | apply Kd.R_drewN | apply Kd.R_drew)); exact HO_10.out) hb); have n1_ := Aside0.mk (Kd.R_below (by (with_reducible repeat (first | apply Kd.R_alloc | apply Kd.R_drewN | apply Kd.R_drew)); exact HO_11.out) hb); have n2_ := Aside0.mk (blk_below (g := gb391) (o := .cells #[.int .i64 a0_0, .int .i64 a0_1, .int .i64 a0_2, .int .i64 a0_3, .int .i64 a0_4] 49 (0, 0)) (by (with_reducible repeat (first | refine blk_drewN ?_ _ | refine blk_drew ?_ | refine blk_alloc ?_ _)); exact BK391.out) hb); have n3_ := Aside0.mk (blk_below (g := gb392) (o := .cells #[.int .i64 a1_0, .int .i64 a1_1, .int .i64 a1_2, .int .i64 a1_3, .int .i64 a1_4] 49 (0, 0)) (by (with_reducible repeat (first | refine blk_drewN ?_ _ | refine blk_drew ?_ | refine blk_alloc ?_ _)); exact BK392.out) hb); have n4_ := Aside0.mk (IsS58.below (by repeat (first | (with_reducible first | exact HI396.out | apply IsS58.alloc | apply IsS58.drewN | apply IsS58.drew | apply IsS58.set_0 | apply IsS58.set_1 | refine IsS58.far ?_ NB396_391.out _ | refine IsS58.far ?_ NB396_392.out _) | exact HI396.out)) hb); have n5_ := Aside0.mk (below_step (by repeat (first | (with_reducible first | exact HB.out | apply below_alloc | apply pw_below_drewN | apply below_drew1 | refine below_set ?_ (IsS58.ge HI396.out) | refine below_set ?_ GE391.out | refine below_set ?_ GE392.out) | exact HB.out)) hb); clear HO_10; clear HO_11; clear BK391; clear BK392; clear HI396; clear HB; have HO_10 := n0_; have HO_11 := n1_; have BK391 := n2_; have BK392 := n3_; have HI396 := n4_; have HB := n5_; clear n0_ n1_ n2_ n3_ n4_ n5_; (try clear hb); (try clear hb2); (try clear hk); (try clear hi)))
             go_roundg k2
             case measure => have := HK1.out; have := HK2.out; omega
             case rel => exact ⟨(wrap64 (x12_2 + (t435.size : Int))), (wrap64 (x13_2 + 1)), (by first | rfl | (simp; done) | (simp [*]; done)), (by first | rfl | (simp; done) | (simp [*]; done)), H', ⟨by have := HK1.out; have := HK2.out; omega⟩, ⟨by (with_reducible repeat (first | apply Kd.R_alloc | apply Kd.R_drewN | apply Kd.R_drew)); exact HO_10.out⟩, ⟨by (with_reducible repeat (first | apply Kd.R_alloc | apply Kd.R_drewN | apply Kd.R_drew)); exact HO_11.out⟩, ⟨by (with_reducible repeat (first | refine blk_drewN ?_ _ | refine blk_drew ?_ | refine blk_alloc ?_ _)); exact BK391.out⟩, ⟨by (with_reducible repeat (first | refine blk_drewN ?_ _ | refine blk_drew ?_ | refine blk_alloc ?_ _)); exact BK392.out⟩, ⟨by repeat (first | (with_reducible first | exact HI396.out | apply IsS58.alloc | apply IsS58.drewN | apply IsS58.drew | apply IsS58.set_0 | apply IsS58.set_1 | refine IsS58.far ?_ NB396_391.out _ | refine IsS58.far ?_ NB396_392.out _) | exact HI396.out)⟩, ⟨by repeat (first | (with_reducible first | exact HB.out | apply below_alloc | apply pw_below_drewN | apply below_drew1 | refine below_set ?_ (IsS58.ge HI396.out) | refine below_set ?_ GE391.out | refine below_set ?_ GE392.out) | exact HB.out)⟩⟩
           ·rw [if_neg c90] at H
            exact absurd H (by simp)
          ·rw [if_neg c89] at H
           have c89b0 : decide (x13_2 < (t427.length : Int)) = false := decide_eq_false c89
           clear c89
           by_cases c96 : (t422.length : Int) = 0
           ·rw [if_pos c96] at H
            have c96b0 : ((t422.length : Int) == 0) = true := beq_iff_eq.mpr c96
            have c96b1 : ((t422.length : Int) != 0) = false := bne_eq_false_iff_eq.mpr c96
            clear c96
            by_cases c97 : (t427.length : Int) > 0
            ·rw [if_pos c97] at H
             have c97b0 : decide (0 < (t427.length : Int)) = true := decide_eq_true c97
             have c97b1 : decide (0 < t427.length) = true := decide_eq_true (by omega)
             clear c97
             by_cases c98 : 0 < (t427.length : Int)
             ·rw [if_pos c98] at H
              have c98b0 : decide (0 < (t427.length : Int)) = true := decide_eq_true c98
              have c98b1 : decide (0 < t427.length) = true := decide_eq_true (by omega)
              clear c98
              by_cases c99 : ((rd_T49 t427 0).f0) = 3
              ·rw [if_pos c99] at H
               have c99b0 : (((rd_T49 t427 0).f0) == 3) = true := beq_iff_eq.mpr c99
               have c99b1 : (((rd_T49 t427 0).f0) != 3) = false := bne_eq_false_iff_eq.mpr c99
               clear c99
               by_cases c100 : x12_2 = (wrap64 ((t416.size : Int) - 1))
               ·rw [if_pos c100] at H
                have c100b0 : (x12_2 == (wrap64 ((t416.size : Int) - 1))) = true := beq_iff_eq.mpr c100
                have c100b1 : (x12_2 != (wrap64 ((t416.size : Int) - 1))) = false := bne_eq_false_iff_eq.mpr c100
                (try rw [hji78] at c100b0)
                (try rw [hji78] at c100b1)
                clear c100
                replace H := Option.bind_eq_some_iff.mp H
                obtain ⟨⟨t437, t438, t439⟩, A1010, H⟩ := H
                replace H : (if t437.toList = ([] : List UInt8) then ((scan_Scanner_Bad.f t438 t439).bind fun bt440 => (some (bt440.1 == 0))) else (some false)) = some r := H
                have A101 := Aside0.mk A1010
                clear A1010
                by_cases c102 : t437.toList = ([] : List UInt8)
                ·rw [if_pos c102] at H
                 have c102b0 : (t437.toList == ([] : List UInt8)) = true := beq_iff_eq.mpr c102
                 have c102b1 : (t437.toList != ([] : List UInt8)) = false := bne_eq_false_iff_eq.mpr c102
                 clear c102
                 replace H := Option.bind_eq_some_iff.mp H
                 obtain ⟨⟨t440, t441, t442⟩, A1030, H⟩ := H
                 replace H : (some (t440 == 0)) = some r := H
                 have A103 := Aside0.mk A1030
                 clear A1030
                 first | exact absurd ((Option.some.inj H).trans HR_.out) (by decide) | skip
                 all_goals
                  obtain rfl := Option.some.inj H
                  obtain ⟨Ao104, co104, eo104⟩ := Kd.R_slice HO_11.out
                  subst eo104
                  obtain ⟨Ao105, co105, eo105⟩ := Kd.R_slice HO_10.out
                  subst eo105
                  have p436 : 0 ≤ (0 : Int) := (by omega)
                  have q436 : 0 < (t427.length : Int) := of_decide_eq_true (by first | (with_reducible assumption) | assumption)
                  obtain ⟨ad436, e436, hx436_0, hx436_1, hx436_2, hx436_3, hx436_4⟩ := at_T49 (Kd.R_reads' HO_11.out).2.2 0 p436 q436
                  cases e436
                  have qi436 : (0 < t427.length) = True := eq_true (by omega)
                  (try rw [show ((0 : Int)).toNat = 0 from rfl] at hx436_0)
                  (try rw [show 0 * 5 = 0 from rfl] at hx436_0)
                  (try rw [Addr.add_zero'] at hx436_0)
                  (try rw [show ((0 : Int)).toNat = 0 from rfl] at hx436_1)
                  (try rw [show 0 * 5 = 0 from rfl] at hx436_1)
                  (try rw [Addr.add_zero'] at hx436_1)
                  (try rw [show ((0 : Int)).toNat = 0 from rfl] at hx436_2)
                  (try rw [show 0 * 5 = 0 from rfl] at hx436_2)
                  (try rw [Addr.add_zero'] at hx436_2)
                  (try rw [show ((0 : Int)).toNat = 0 from rfl] at hx436_3)
                  (try rw [show 0 * 5 = 0 from rfl] at hx436_3)
                  (try rw [Addr.add_zero'] at hx436_3)
                  (try rw [show ((0 : Int)).toNat = 0 from rfl] at hx436_4)
                  (try rw [show 0 * 5 = 0 from rfl] at hx436_4)
                  (try rw [Addr.add_zero'] at hx436_4)
                  replace p436 := eq_true p436
                  replace q436 := eq_true q436
                  go_wp2_with (first | (go_at_call 16; (with_reducible refine (scan_Scanner_Waits.calls g396 t430 t431 t437 t438 t439 w _ ?side1 ?side2 A101.out).mono ?_); (case side1 => repeat (first | (with_reducible first | exact HI396.out | apply IsS58.alloc | apply IsS58.drewN | apply IsS58.drew | apply IsS58.set_0 | apply IsS58.set_1 | refine IsS58.far ?_ NB396_391.out _ | refine IsS58.far ?_ NB396_392.out _) | exact HI396.out)); (case side2 => repeat (first | (with_reducible first | exact HB.out | apply below_alloc | apply pw_below_drewN | apply below_drew1 | refine below_set ?_ (IsS58.ge HI396.out) | refine below_set ?_ GE391.out | refine below_set ?_ GE392.out) | exact HB.out)); rintro e w106 ⟨rfl, hi, hb, hk⟩; have n0_ := Aside0.mk (Kd.R_mono (Kd.R_keep (IsS58.apart (show IsS58 w _ g396 t430 t431 from by repeat (first | (with_reducible first | exact HI396.out | apply IsS58.alloc | apply IsS58.drewN | apply IsS58.drew | apply IsS58.set_0 | apply IsS58.set_1 | refine IsS58.far ?_ NB396_391.out _ | refine IsS58.far ?_ NB396_392.out _) | exact HI396.out)) (by (with_reducible repeat (first | apply Kd.R_alloc | apply Kd.R_drewN | apply Kd.R_drew)); exact HO_10.out) (by decide)) hk (fun _ h => h.2)) (fun _ h => h.1)); have n1_ := Aside0.mk (Kd.R_mono (Kd.R_keep (IsS58.apart (show IsS58 w _ g396 t430 t431 from by repeat (first | (with_reducible first | exact HI396.out | apply IsS58.alloc | apply IsS58.drewN | apply IsS58.drew | apply IsS58.set_0 | apply IsS58.set_1 | refine IsS58.far ?_ NB396_391.out _ | refine IsS58.far ?_ NB396_392.out _) | exact HI396.out)) (by (with_reducible repeat (first | apply Kd.R_alloc | apply Kd.R_drewN | apply Kd.R_drew)); exact HO_11.out) (by decide)) hk (fun _ h => h.2)) (fun _ h => h.1)); have n2_ := Aside0.mk (KeepBut.blk hk (g' := gb391) (o := .cells #[.int .i64 a0_0, .int .i64 a0_1, .int .i64 a0_2, .int .i64 a0_3, .int .i64 a0_4] 49 (0, 0)) (by (with_reducible repeat (first | refine blk_drewN ?_ _ | refine blk_drew ?_ | refine blk_alloc ?_ _)); exact BK391.out) NB391_396.out (by simp)); have n3_ := Aside0.mk (KeepBut.blk hk (g' := gb392) (o := .cells #[.int .i64 a1_0, .int .i64 a1_1, .int .i64 a1_2, .int .i64 a1_3, .int .i64 a1_4] 49 (0, 0)) (by (with_reducible repeat (first | refine blk_drewN ?_ _ | refine blk_drew ?_ | refine blk_alloc ?_ _)); exact BK392.out) NB392_396.out (by simp)); have n4_ := Aside0.mk (hb); have n5_ := Aside0.mk (hi); clear HO_10; clear HO_11; clear BK391; clear BK392; clear HB; clear HI396; have HO_10 := n0_; have HO_11 := n1_; have BK391 := n2_; have BK392 := n3_; have HB := n4_; have HI396 := n5_; clear n0_ n1_ n2_ n3_ n4_ n5_; (try clear hb); (try clear hb2); (try clear hk); (try clear hi)) | (go_at_call 17; (with_reducible refine (scan_Scanner_Bad.calls g396 t438 t439 t440 t441 t442 w _ ?side1 ?side2 A103.out).mono ?_); (case side1 => repeat (first | (with_reducible first | exact HI396.out | apply IsS58.alloc | apply IsS58.drewN | apply IsS58.drew | apply IsS58.set_0 | apply IsS58.set_1 | refine IsS58.far ?_ NB396_391.out _ | refine IsS58.far ?_ NB396_392.out _) | exact HI396.out)); (case side2 => repeat (first | (with_reducible first | exact HB.out | apply below_alloc | apply pw_below_drewN | apply below_drew1 | refine below_set ?_ (IsS58.ge HI396.out) | refine below_set ?_ GE391.out | refine below_set ?_ GE392.out) | exact HB.out)); rintro e w107 ⟨rfl, hi, hb, hk⟩; have n0_ := Aside0.mk (Kd.R_mono (Kd.R_keep (IsS58.apart (show IsS58 w _ g396 t438 t439 from by repeat (first | (with_reducible first | exact HI396.out | apply IsS58.alloc | apply IsS58.drewN | apply IsS58.drew | apply IsS58.set_0 | apply IsS58.set_1 | refine IsS58.far ?_ NB396_391.out _ | refine IsS58.far ?_ NB396_392.out _) | exact HI396.out)) (by (with_reducible repeat (first | apply Kd.R_alloc | apply Kd.R_drewN | apply Kd.R_drew)); exact HO_10.out) (by decide)) hk (fun _ h => h.2)) (fun _ h => h.1)); have n1_ := Aside0.mk (Kd.R_mono (Kd.R_keep (IsS58.apart (show IsS58 w _ g396 t438 t439 from by repeat (first | (with_reducible first | exact HI396.out | apply IsS58.alloc | apply IsS58.drewN | apply IsS58.drew | apply IsS58.set_0 | apply IsS58.set_1 | refine IsS58.far ?_ NB396_391.out _ | refine IsS58.far ?_ NB396_392.out _) | exact HI396.out)) (by (with_reducible repeat (first | apply Kd.R_alloc | apply Kd.R_drewN | apply Kd.R_drew)); exact HO_11.out) (by decide)) hk (fun _ h => h.2)) (fun _ h => h.1)); have n2_ := Aside0.mk (KeepBut.blk hk (g' := gb391) (o := .cells #[.int .i64 a0_0, .int .i64 a0_1, .int .i64 a0_2, .int .i64 a0_3, .int .i64 a0_4] 49 (0, 0)) (by (with_reducible repeat (first | refine blk_drewN ?_ _ | refine blk_drew ?_ | refine blk_alloc ?_ _)); exact BK391.out) NB391_396.out (by simp)); have n3_ := Aside0.mk (KeepBut.blk hk (g' := gb392) (o := .cells #[.int .i64 a1_0, .int .i64 a1_1, .int .i64 a1_2, .int .i64 a1_3, .int .i64 a1_4] 49 (0, 0)) (by (with_reducible repeat (first | refine blk_drewN ?_ _ | refine blk_drew ?_ | refine blk_alloc ?_ _)); exact BK392.out) NB392_396.out (by simp)); have n4_ := Aside0.mk (hb); have n5_ := Aside0.mk (hi); clear HO_10; clear HO_11; clear BK391; clear BK392; clear HB; clear HI396; have HO_10 := n0_; have HO_11 := n1_; have BK391 := n2_; have BK392 := n3_; have HB := n4_; have HI396 := n5_; clear n0_ n1_ n2_ n3_ n4_ n5_; (try clear hb); (try clear hb2); (try clear hk); (try clear hi)))
                  go_ret
                  exact ⟨by first | rfl | (simp [errW_none, errW_some] <;> rfl) | (simp only [← hji78]; first | rfl | (simp [errW_none, errW_some] <;> rfl)) | (simp [*, errW_none, errW_some] <;> rfl), by repeat (first | (with_reducible first | exact HB.out | apply below_alloc | apply pw_below_drewN | apply below_drew1 | refine below_set ?_ (IsS58.ge HI396.out) | refine below_set ?_ GE391.out | refine below_set ?_ GE392.out) | exact HB.out)⟩
                ·rw [if_neg c102] at H
                 have c102b0 : (t437.toList == ([] : List UInt8)) = false := beq_eq_false_iff_ne.mpr c102
                 have c102b1 : (t437.toList != ([] : List UInt8)) = true := bne_iff_ne.mpr c102
                 first | exact absurd ((Option.some.inj H).trans HR_.out) (by decide) | skip
                 all_goals
                  obtain rfl := Option.some.inj H
                  obtain ⟨Ao108, co108, eo108⟩ := Kd.R_slice HO_11.out
                  subst eo108
                  obtain ⟨Ao109, co109, eo109⟩ := Kd.R_slice HO_10.out
                  subst eo109
                  have p436 : 0 ≤ (0 : Int) := (by omega)
                  have q436 : 0 < (t427.length : Int) := of_decide_eq_true (by first | (with_reducible assumption) | assumption)
                  obtain ⟨ad436, e436, hx436_0, hx436_1, hx436_2, hx436_3, hx436_4⟩ := at_T49 (Kd.R_reads' HO_11.out).2.2 0 p436 q436
                  cases e436
                  have qi436 : (0 < t427.length) = True := eq_true (by omega)
                  (try rw [show ((0 : Int)).toNat = 0 from rfl] at hx436_0)
                  (try rw [show 0 * 5 = 0 from rfl] at hx436_0)
                  (try rw [Addr.add_zero'] at hx436_0)
                  (try rw [show ((0 : Int)).toNat = 0 from rfl] at hx436_1)
                  (try rw [show 0 * 5 = 0 from rfl] at hx436_1)
                  (try rw [Addr.add_zero'] at hx436_1)
                  (try rw [show ((0 : Int)).toNat = 0 from rfl] at hx436_2)
                  (try rw [show 0 * 5 = 0 from rfl] at hx436_2)
                  (try rw [Addr.add_zero'] at hx436_2)
                  (try rw [show ((0 : Int)).toNat = 0 from rfl] at hx436_3)
                  (try rw [show 0 * 5 = 0 from rfl] at hx436_3)
                  (try rw [Addr.add_zero'] at hx436_3)
                  (try rw [show ((0 : Int)).toNat = 0 from rfl] at hx436_4)
                  (try rw [show 0 * 5 = 0 from rfl] at hx436_4)
                  (try rw [Addr.add_zero'] at hx436_4)
                  replace p436 := eq_true p436
                  replace q436 := eq_true q436
                  go_wp2_with (first | (go_at_call 16; (with_reducible refine (scan_Scanner_Waits.calls g396 t430 t431 t437 t438 t439 w _ ?side1 ?side2 A101.out).mono ?_); (case side1 => repeat (first | (with_reducible first | exact HI396.out | apply IsS58.alloc | apply IsS58.drewN | apply IsS58.drew | apply IsS58.set_0 | apply IsS58.set_1 | refine IsS58.far ?_ NB396_391.out _ | refine IsS58.far ?_ NB396_392.out _) | exact HI396.out)); (case side2 => repeat (first | (with_reducible first | exact HB.out | apply below_alloc | apply pw_below_drewN | apply below_drew1 | refine below_set ?_ (IsS58.ge HI396.out) | refine below_set ?_ GE391.out | refine below_set ?_ GE392.out) | exact HB.out)); rintro e w110 ⟨rfl, hi, hb, hk⟩; have n0_ := Aside0.mk (Kd.R_mono (Kd.R_keep (IsS58.apart (show IsS58 w _ g396 t430 t431 from by repeat (first | (with_reducible first | exact HI396.out | apply IsS58.alloc | apply IsS58.drewN | apply IsS58.drew | apply IsS58.set_0 | apply IsS58.set_1 | refine IsS58.far ?_ NB396_391.out _ | refine IsS58.far ?_ NB396_392.out _) | exact HI396.out)) (by (with_reducible repeat (first | apply Kd.R_alloc | apply Kd.R_drewN | apply Kd.R_drew)); exact HO_10.out) (by decide)) hk (fun _ h => h.2)) (fun _ h => h.1)); have n1_ := Aside0.mk (Kd.R_mono (Kd.R_keep (IsS58.apart (show IsS58 w _ g396 t430 t431 from by repeat (first | (with_reducible first | exact HI396.out | apply IsS58.alloc | apply IsS58.drewN | apply IsS58.drew | apply IsS58.set_0 | apply IsS58.set_1 | refine IsS58.far ?_ NB396_391.out _ | refine IsS58.far ?_ NB396_392.out _) | exact HI396.out)) (by (with_reducible repeat (first | apply Kd.R_alloc | apply Kd.R_drewN | apply Kd.R_drew)); exact HO_11.out) (by decide)) hk (fun _ h => h.2)) (fun _ h => h.1)); have n2_ := Aside0.mk (KeepBut.blk hk (g' := gb391) (o := .cells #[.int .i64 a0_0, .int .i64 a0_1, .int .i64 a0_2, .int .i64 a0_3, .int .i64 a0_4] 49 (0, 0)) (by (with_reducible repeat (first | refine blk_drewN ?_ _ | refine blk_drew ?_ | refine blk_alloc ?_ _)); exact BK391.out) NB391_396.out (by simp)); have n3_ := Aside0.mk (KeepBut.blk hk (g' := gb392) (o := .cells #[.int .i64 a1_0, .int .i64 a1_1, .int .i64 a1_2, .int .i64 a1_3, .int .i64 a1_4] 49 (0, 0)) (by (with_reducible repeat (first | refine blk_drewN ?_ _ | refine blk_drew ?_ | refine blk_alloc ?_ _)); exact BK392.out) NB392_396.out (by simp)); have n4_ := Aside0.mk (hb); have n5_ := Aside0.mk (hi); clear HO_10; clear HO_11; clear BK391; clear BK392; clear HB; clear HI396; have HO_10 := n0_; have HO_11 := n1_; have BK391 := n2_; have BK392 := n3_; have HB := n4_; have HI396 := n5_; clear n0_ n1_ n2_ n3_ n4_ n5_; (try clear hb); (try clear hb2); (try clear hk); (try clear hi)))
                  go_ret
                  exact ⟨by first | rfl | (simp [errW_none, errW_some] <;> rfl) | (simp only [← hji78]; first | rfl | (simp [errW_none, errW_some] <;> rfl)) | (simp [*, errW_none, errW_some] <;> rfl), by repeat (first | (with_reducible first | exact HB.out | apply below_alloc | apply pw_below_drewN | apply below_drew1 | refine below_set ?_ (IsS58.ge HI396.out) | refine below_set ?_ GE391.out | refine below_set ?_ GE392.out) | exact HB.out)⟩
               ·rw [if_neg c100] at H
                have c100b0 : (x12_2 == (wrap64 ((t416.size : Int) - 1))) = false := beq_eq_false_iff_ne.mpr c100
                have c100b1 : (x12_2 != (wrap64 ((t416.size : Int) - 1))) = true := bne_iff_ne.mpr c100
                (try rw [hji78] at c100b0)
                (try rw [hji78] at c100b1)
                first | exact absurd ((Option.some.inj H).trans HR_.out) (by decide) | skip
                all_goals
                 obtain rfl := Option.some.inj H
                 obtain ⟨Ao111, co111, eo111⟩ := Kd.R_slice HO_11.out
                 subst eo111
                 obtain ⟨Ao112, co112, eo112⟩ := Kd.R_slice HO_10.out
                 subst eo112
                 have p436 : 0 ≤ (0 : Int) := (by omega)
                 have q436 : 0 < (t427.length : Int) := of_decide_eq_true (by first | (with_reducible assumption) | assumption)
                 obtain ⟨ad436, e436, hx436_0, hx436_1, hx436_2, hx436_3, hx436_4⟩ := at_T49 (Kd.R_reads' HO_11.out).2.2 0 p436 q436
                 cases e436
                 have qi436 : (0 < t427.length) = True := eq_true (by omega)
                 (try rw [show ((0 : Int)).toNat = 0 from rfl] at hx436_0)
                 (try rw [show 0 * 5 = 0 from rfl] at hx436_0)
                 (try rw [Addr.add_zero'] at hx436_0)
                 (try rw [show ((0 : Int)).toNat = 0 from rfl] at hx436_1)
                 (try rw [show 0 * 5 = 0 from rfl] at hx436_1)
                 (try rw [Addr.add_zero'] at hx436_1)
                 (try rw [show ((0 : Int)).toNat = 0 from rfl] at hx436_2)
                 (try rw [show 0 * 5 = 0 from rfl] at hx436_2)
                 (try rw [Addr.add_zero'] at hx436_2)
                 (try rw [show ((0 : Int)).toNat = 0 from rfl] at hx436_3)
                 (try rw [show 0 * 5 = 0 from rfl] at hx436_3)
                 (try rw [Addr.add_zero'] at hx436_3)
                 (try rw [show ((0 : Int)).toNat = 0 from rfl] at hx436_4)
                 (try rw [show 0 * 5 = 0 from rfl] at hx436_4)
                 (try rw [Addr.add_zero'] at hx436_4)
                 replace p436 := eq_true p436
                 replace q436 := eq_true q436
                 go_wp2
                 go_ret
                 exact ⟨by first | rfl | (simp [errW_none, errW_some] <;> rfl) | (simp only [← hji78]; first | rfl | (simp [errW_none, errW_some] <;> rfl)) | (simp [*, errW_none, errW_some] <;> rfl), by repeat (first | (with_reducible first | exact HB.out | apply below_alloc | apply pw_below_drewN | apply below_drew1 | refine below_set ?_ (IsS58.ge HI396.out) | refine below_set ?_ GE391.out | refine below_set ?_ GE392.out) | exact HB.out)⟩
              ·rw [if_neg c99] at H
               have c99b0 : (((rd_T49 t427 0).f0) == 3) = false := beq_eq_false_iff_ne.mpr c99
               have c99b1 : (((rd_T49 t427 0).f0) != 3) = true := bne_iff_ne.mpr c99
               first | exact absurd ((Option.some.inj H).trans HR_.out) (by decide) | skip
               all_goals
                obtain rfl := Option.some.inj H
                obtain ⟨Ao113, co113, eo113⟩ := Kd.R_slice HO_11.out
                subst eo113
                obtain ⟨Ao114, co114, eo114⟩ := Kd.R_slice HO_10.out
                subst eo114
                have p436 : 0 ≤ (0 : Int) := (by omega)
                have q436 : 0 < (t427.length : Int) := of_decide_eq_true (by first | (with_reducible assumption) | assumption)
                obtain ⟨ad436, e436, hx436_0, hx436_1, hx436_2, hx436_3, hx436_4⟩ := at_T49 (Kd.R_reads' HO_11.out).2.2 0 p436 q436
                cases e436
                have qi436 : (0 < t427.length) = True := eq_true (by omega)
                (try rw [show ((0 : Int)).toNat = 0 from rfl] at hx436_0)
                (try rw [show 0 * 5 = 0 from rfl] at hx436_0)
                (try rw [Addr.add_zero'] at hx436_0)
                (try rw [show ((0 : Int)).toNat = 0 from rfl] at hx436_1)
                (try rw [show 0 * 5 = 0 from rfl] at hx436_1)
                (try rw [Addr.add_zero'] at hx436_1)
                (try rw [show ((0 : Int)).toNat = 0 from rfl] at hx436_2)
                (try rw [show 0 * 5 = 0 from rfl] at hx436_2)
                (try rw [Addr.add_zero'] at hx436_2)
                (try rw [show ((0 : Int)).toNat = 0 from rfl] at hx436_3)
                (try rw [show 0 * 5 = 0 from rfl] at hx436_3)
                (try rw [Addr.add_zero'] at hx436_3)
                (try rw [show ((0 : Int)).toNat = 0 from rfl] at hx436_4)
                (try rw [show 0 * 5 = 0 from rfl] at hx436_4)
                (try rw [Addr.add_zero'] at hx436_4)
                replace p436 := eq_true p436
                replace q436 := eq_true q436
                go_wp2
                go_ret
                exact ⟨by first | rfl | (simp [errW_none, errW_some] <;> rfl) | (simp only [← hji78]; first | rfl | (simp [errW_none, errW_some] <;> rfl)) | (simp [*, errW_none, errW_some] <;> rfl), by repeat (first | (with_reducible first | exact HB.out | apply below_alloc | apply pw_below_drewN | apply below_drew1 | refine below_set ?_ (IsS58.ge HI396.out) | refine below_set ?_ GE391.out | refine below_set ?_ GE392.out) | exact HB.out)⟩
             ·rw [if_neg c98] at H
              exact absurd H (by simp)
            ·rw [if_neg c97] at H
             have c97b0 : decide (0 < (t427.length : Int)) = false := decide_eq_false c97
             have c97b1 : decide (0 < t427.length) = false := decide_eq_false (by omega)
             clear c97
             first | exact absurd ((Option.some.inj H).trans HR_.out) (by decide) | skip
             all_goals
              obtain rfl := Option.some.inj H
              obtain ⟨Ao115, co115, eo115⟩ := Kd.R_slice HO_11.out
              subst eo115
              obtain ⟨Ao116, co116, eo116⟩ := Kd.R_slice HO_10.out
              subst eo116
              go_wp2
              go_ret
              exact ⟨by first | rfl | (simp [errW_none, errW_some] <;> rfl) | (simp only [← hji78]; first | rfl | (simp [errW_none, errW_some] <;> rfl)) | (simp [*, errW_none, errW_some] <;> rfl), by repeat (first | (with_reducible first | exact HB.out | apply below_alloc | apply pw_below_drewN | apply below_drew1 | refine below_set ?_ (IsS58.ge HI396.out) | refine below_set ?_ GE391.out | refine below_set ?_ GE392.out) | exact HB.out)⟩
           ·rw [if_neg c96] at H
            have c96b0 : ((t422.length : Int) == 0) = false := beq_eq_false_iff_ne.mpr c96
            have c96b1 : ((t422.length : Int) != 0) = true := bne_iff_ne.mpr c96
            have c96b2 : ¬ (t422 = []) := fun h_ => c96 (by rw [h_]; rfl)
            first | exact absurd ((Option.some.inj H).trans HR_.out) (by decide) | skip
            all_goals
             obtain rfl := Option.some.inj H
             obtain ⟨Ao117, co117, eo117⟩ := Kd.R_slice HO_11.out
             subst eo117
             obtain ⟨Ao118, co118, eo118⟩ := Kd.R_slice HO_10.out
             subst eo118
             go_wp2
             go_ret
             exact ⟨by first | rfl | (simp [errW_none, errW_some] <;> rfl) | (simp only [← hji78]; first | rfl | (simp [errW_none, errW_some] <;> rfl)) | (simp [*, errW_none, errW_some] <;> rfl), by repeat (first | (with_reducible first | exact HB.out | apply below_alloc | apply pw_below_drewN | apply below_drew1 | refine below_set ?_ (IsS58.ge HI396.out) | refine below_set ?_ GE391.out | refine below_set ?_ GE392.out) | exact HB.out)⟩
       ·rw [if_neg c80] at H
        exact absurd H (by simp)
      ·rw [if_neg c79] at H
       exact absurd H (by simp)
 ·replace c4 := Bool.eq_false_iff.mpr c4
  subst c4
  have H1 : (some false) = some r := by rw [if_neg (show ¬ (false = true) by decide)] at H; exact H
  clear H
  have H := H1
  clear H1
  exact absurd ((Option.some.inj H).trans HR_.out) (by decide)
end Go.Proofs.Ytmccgkbbgicglaa.QScanAll
