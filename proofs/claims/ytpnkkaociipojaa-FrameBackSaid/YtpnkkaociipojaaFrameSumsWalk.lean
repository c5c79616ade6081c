/- The walk of the law FrameSums of folder 8, from what its callees answer. No condition beyond those. -/
import Derived.Test.YtpnkkaociipojaaFrameAwake
import Derived.Laws.IdiomStrings
import Derived.Deep.QuietTactic
import Derived.BigQuiet
namespace Go.Proofs.Ytpnkkaociipojaa.FrameSumsW
open Go.RowKit Go.Proofs.Ytpnkkaociipojaa.QFrames Go.Proofs.Ytpnkkaociipojaa.FrameWalk Go.Proofs.YtpnkkaociipojaaW.PrintWords Go.Proofs.YtpnkkaociipojaaW.PrintLast Go.Proofs.YtpnkkaociipojaaW.PrintMore
set_option linter.unusedVariables false
set_option linter.unusedSimpArgs false


/-- The world behind []byte(s). -/
def BW (s : ByteArray) (W : World) : World := W.drew.alloc (Obj.cells (bytesRow s (grownCap W s.size 0 5)) 5 ((bytesRow s (grownCap W s.size 0 5)).size, (bytesRow s (grownCap W s.size 0 5)).size + 1))
theorem bw_run (s : ByteArray) (W : World) : (convert 9 36 (.string s)).run Try.prog W = .ok (.slice (some ⟨W.heap.size, 0, none⟩) s.size (grownCap W s.size 0 5)) (BW s W) :=
  run_bytes_of_string W 9 36 5 s Try.underlying9 Try.underlying36 Try.underlying5
theorem bw_block (s : ByteArray) (W : World) : (BW s W).heap[W.heap.size]? = some (.cells (bytesRow s (grownCap W s.size 0 5)) 5 ((bytesRow s (grownCap W s.size 0 5)).size, (bytesRow s (grownCap W s.size 0 5)).size + 1)) := by
  unfold BW
  show (W.heap.push _)[W.heap.size]? = _
  simp
theorem row_at (s : ByteArray) (c K : Nat) (hK : K < s.size) : (bytesRow s c)[K]? = some (.int .u8 (bt s (K : Int))) := by
  unfold bytesRow
  simp [Array.getElem?_append, hK, bt]
  rfl
theorem bw_cell (s : ByteArray) (W : World) (K : Nat) (hK : K < s.size) : (BW s W).cell? ⟨W.heap.size, K, none⟩ = some (.int .u8 (bt s (K : Int))) := by
  simp [World.cell?, bw_block, row_at s _ K hK]
theorem bw_frozen (s : ByteArray) (W : World) (K : Nat) (hK : K < s.size) : (BW s W).frozen? ⟨W.heap.size, K, none⟩ = false := by
  have h : K < (bytesRow s (grownCap W s.size 0 5)).size := by
    have := row_at s (grownCap W s.size 0 5) K hK
    exact (Array.getElem?_eq_some_iff.1 this).1
  simp [World.frozen?, bw_block]
  omega
theorem bw_size (s : ByteArray) (W : World) : (BW s W).heap.size = W.heap.size + 1 := by
  unfold BW; show (W.heap.push _).size = _; simp
theorem bw_below (s : ByteArray) (W : World) : Below W.heap.size W (BW s W) := by
  unfold BW
  exact below_alloc (below_drew (Below.refl _ _)) _
/-- The text with one byte put. -/
def put1 (s : ByteArray) (K c : Nat) : ByteArray := ⟨(s.data.toList.set K (UInt8.ofNat c)).toArray⟩
theorem back_run (s : ByteArray) (K c : Nat) (hK : K < s.size) (hc : c < 256) (W : World) (n cap : Nat) :
    (convert 36 9 (.slice (some ⟨W.heap.size, 0, none⟩) s.size cap)).run Try.prog (((BW s W).setCell ⟨W.heap.size, K, none⟩ (.int .u8 (c : Int))).drewN n) = .ok (.string (put1 s K c)) (((BW s W).setCell ⟨W.heap.size, K, none⟩ (.int .u8 (c : Int))).drewN n) := by
  have hl : (s.data.toList.set K (UInt8.ofNat c)).length = s.size := by simp
  have h := run_convert_bytes_back (P := Try.prog) (((BW s W).setCell ⟨W.heap.size, K, none⟩ (.int .u8 (c : Int))).drewN n) 36 9 5 ⟨W.heap.size, 0, none⟩ cap (s.data.toList.set K (UInt8.ofNat c)) Try.underlying36 Try.underlying5 Try.underlying9 ?_
  · rw [hl] at h; exact h
  · intro j hj
    have hj2 : j < s.size := by rw [hl] at hj; exact hj
    have hcl := bw_cell s W j hj2
    have hck := bw_cell s W K hK
    have hadd : (⟨W.heap.size, 0, none⟩ : Addr).add j = ⟨W.heap.size, j, none⟩ := by
      simp [Addr.add]
      omega
    have hd : (((BW s W).setCell ⟨W.heap.size, K, none⟩ (.int .u8 (c : Int))).drewN n).cell? ⟨W.heap.size, j, none⟩ = ((BW s W).setCell ⟨W.heap.size, K, none⟩ (.int .u8 (c : Int))).cell? ⟨W.heap.size, j, none⟩ := by simp
    rw [hadd, hd]
    by_cases e : K = j
    · subst e
      rw [World.cell?_setCell_same' _ _ _ (by rw [hck]; rfl)]
      simp
      omega
    · have hne : (⟨W.heap.size, K, none⟩ : Addr) ≠ ⟨W.heap.size, j, none⟩ := by intro h; injection h with h1 h2; exact e h2
      have ho := World.cell?_setCell_other (BW s W) _ _ (.int .u8 (c : Int)) hne
      rw [ho, hcl]
      rw [List.getElem_set_ne e]
      simp [bt, hj2]
      rfl
set_option maxHeartbeats 4000000 in
set_option maxRecDepth 100000 in
theorem sums_calls (k : Nat) (s : ByteArray) (a b : Int) (K c : Nat) (x y : Int) (w : World) (hs2 : ((s.size : Int) == 0) = false)
    (hz : (IntKind.u64.wrap (s.size : Int) == 0) = false) (hz2 : ¬ IntKind.u64.wrap (s.size : Int) = 0)
    (hK : wrap64 (Int.tmod (IntKind.u64.wrap a) (IntKind.u64.wrap (s.size : Int))) = (K : Int)) (hKl : K < s.size) (hK0 : 0 ≤ (K : Int)) (hK1 : (K : Int) < (s.size : Int))
    (hc : Go.bits .xor .u8 (bt s (K : Int)) (wrap64 (1 + (Go.bits .and .i64 b 127)) % 256) = (c : Int)) (hc2 : c < 256)
    (A1 : Aside0 (frame_Sum.f k s = some x)) (A2 : Aside0 (frame_Sum.f k (put1 s K c) = some y))
    (hxy : (x == y) = false) (hxy2 : (x != y) = true) (hx0 : decide (0 ≤ x) = true) (hx1 : decide (x < 65536) = true) (hy0 : decide (0 ≤ y) = true) (hy1 : decide (y < 65536) = true)
    (AW : Aside0 (∀ w : World, Calls Try.prog 15 #[] w fun e w' => e = .returned (.bool true) ∧ Below w.heap.size w w')) :
    Calls Try.prog 7 #[.string s, .int .i64 a, .int .i64 b] w fun e w' => e = .returned (.bool true) ∧ Below w.heap.size w w' := by
  have HB := Aside0.mk (Below.refl w.heap.size w)
  have hcv := bw_run s
  have hcell : ∀ W : World, (BW s W).cell? ⟨W.heap.size, K, none⟩ = some (.int .u8 (bt s (K : Int))) := fun W => bw_cell s W K hKl
  have hfroz : ∀ W : World, (BW s W).frozen? ⟨W.heap.size, K, none⟩ = false := fun W => bw_frozen s W K hKl
  have hback := back_run s K c hKl hc2
  go_enter Try.func7, Try.ntmps7
  go_wp2_with (first | (go_at_call 15; (with_reducible refine (AW.out _).mono ?_); rintro e w1 ⟨rfl, hb⟩; have n0_ := Aside0.mk (below_step (by repeat (first | (with_reducible first | exact HB.out | apply below_alloc | apply pw_below_drewN | apply below_drew1) | exact HB.out)) hb); clear HB; have HB := n0_; clear n0_; (try clear hb)))
  clear hcv hcell hfroz hz hz2 hK hs2
  have hb2 := fun n cap => hback w1 n cap
  clear hback hc hKl hK0 hK1 hc2
  have HB2 := Aside0.mk ((below_then HB.out HB.out.size (bw_below s w1)).setCell (show w.heap.size ≤ (⟨w1.heap.size, K, none⟩ : Addr).block from HB.out.size) (.int .u8 (c : Int)))
  generalize hW2 : (BW s w1).setCell ⟨w1.heap.size, K, none⟩ (.int .u8 (c : Int)) = W2 at *
  generalize hH : w1.heap.size = H at *
  generalize grownCap w1 s.size 0 5 = cap at *
  have HW2 := Aside0.mk hW2
  have HH := Aside0.mk hH
  clear hW2 hH
  have hb3 := fun n => hb2 n cap
  clear hb2
  generalize put1 s K c = t at *
  go_quiet ((first
    | (go_at_call 13; with_reducible exact Calls.quiet_of ((frame_Sum.calls k s x _ A1.out).mono fun _ _ h => ⟨h.1, h.2.out⟩))
    | (go_at_call 13; with_reducible exact Calls.quiet_of ((frame_Sum.calls k t y _ A2.out).mono fun _ _ h => ⟨h.1, h.2.out⟩))))
  go_wp2_with (first | (go_at_call 12; (with_reducible refine (num_calls 0 _).mono ?_); rintro e w1 ⟨rfl, ⟨nd, rfl⟩⟩))
  go_ret
  exact ⟨by first | rfl | (simp; done), by repeat (first | (with_reducible first | exact HB2.out | apply below_alloc | apply pw_below_drewN | apply below_drew1) | exact HB2.out)⟩
set_option maxHeartbeats 4000000 in
set_option maxRecDepth 100000 in
theorem sums_empty (k : Nat) (s : ByteArray) (a b : Int) (w : World) (hs2 : ((s.size : Int) == 0) = true) (A1 : Aside0 (frame_Sum.f k s = some 65535))
    (AW : Aside0 (∀ w : World, Calls Try.prog 15 #[] w fun e w' => e = .returned (.bool true) ∧ Below w.heap.size w w')) :
    Calls Try.prog 7 #[.string s, .int .i64 a, .int .i64 b] w fun e w' => e = .returned (.bool true) ∧ Below w.heap.size w w' := by
  have HB := Aside0.mk (Below.refl w.heap.size w)
  go_enter Try.func7, Try.ntmps7
  go_wp2_with (first | (go_at_call 15; (with_reducible refine (AW.out _).mono ?_); rintro e w1 ⟨rfl, hb⟩; have n0_ := Aside0.mk (below_step (by repeat (first | (with_reducible first | exact HB.out | apply below_alloc | apply pw_below_drewN | apply below_drew1) | exact HB.out)) hb); clear HB; have HB := n0_; clear n0_; (try clear hb)) | (go_at_call 13; (with_reducible refine (frame_Sum.calls k s 65535 _ A1.out).mono ?_); rintro e w1 ⟨rfl, ⟨nd, rfl⟩⟩))
  go_ret
  exact ⟨by first | rfl | (simp; done), by repeat (first | (with_reducible first | exact HB.out | apply below_alloc | apply pw_below_drewN | apply below_drew1) | exact HB.out)⟩

end Go.Proofs.Ytpnkkaociipojaa.FrameSumsW
