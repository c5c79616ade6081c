/- The reference's reading of a record, from what its callees answer. No condition. -/
import Derived.Test.YtikfpihapdabfaaQRecordsx13
import Derived.Test.YtikfpihapdabfaaQRecordsx12
import Derived.Test.YtikfpihapdabfaaQRecordsx11
import Derived.Test.YtikfpihapdabfaaQRecordsx7
namespace Go.Proofs.Ytikfpihapdabfaa.GetRecW
open Go.RowKit Go.Proofs.Ytikfpihapdabfaa.QRecords Go.Proofs.YtikfpihapdabfaaW.PrintWords Go.Proofs.YtikfpihapdabfaaW.PrintLast Go.Proofs.YtikfpihapdabfaaW.PrintMore
set_option linter.unusedVariables false
set_option linter.unusedSimpArgs false


structure Gr.G (w W : World) (gr : Nat) (S : ByteArray) (at_ : Int) (bad : Bool) : Prop where
  res : W.heap[w.heap.size]? = some (.cells #[.int .i64 0, .int .i64 0, .int .i64 0, .int .i64 0, .int .i64 0, .int .i64 0, .bool false, .slice none 0 0, .int .i64 0, .int .i64 0, .int .i64 0, .int .i64 0] 30 (0, 0))
  rd : IsS59 w W gr S at_ bad
  ne : w.heap.size < gr
  below : Below w.heap.size w W
theorem Gr.G.num {w W W' : World} {gr : Nat} {S S' : ByteArray} {at_ at' : Int} {bad bad' : Bool} (h : Gr.G w W gr S at_ bad) (hI : IsS59 w W' gr S' at' bad') (hB : Below w.heap.size w W') (hK : KeepBut W W' gr none) : Gr.G w W' gr S' at' bad' :=
  ⟨by rw [hK.2 _ (Nat.lt_trans h.ne h.rd.lt) (Nat.ne_of_lt h.ne) (by simp)]; exact h.res, hI, h.ne, hB⟩
theorem Gr.G.start (w : World) (a0 : ByteArray) : Gr.G w ((w.alloc (.cells #[.int .i64 0, .int .i64 0, .int .i64 0, .int .i64 0, .int .i64 0, .int .i64 0, .bool false, .slice none 0 0, .int .i64 0, .int .i64 0, .int .i64 0, .int .i64 0] 30)).alloc (.cells #[.string a0, .int .i64 0, .bool false] 59)) (w.heap.size + 1) a0 0 false :=
  ⟨by show ((w.heap.push _).push _)[w.heap.size]? = _; simp [Array.getElem?_push], by
    have e : (w.alloc (.cells #[.int .i64 0, .int .i64 0, .int .i64 0, .int .i64 0, .int .i64 0, .int .i64 0, .bool false, .slice none 0 0, .int .i64 0, .int .i64 0, .int .i64 0, .int .i64 0] 30)).heap.size = w.heap.size + 1 := Array.size_push ..
    rw [← e]; exact IsS59.new w _ a0 0 false (below_alloc (Below.refl _ _) _), by omega, below_alloc (below_alloc (Below.refl _ _) _) _⟩
theorem Gr.G.step {w W W' : World} {gr : Nat} {S : ByteArray} {at_ : Int} {bad : Bool} (h : Gr.G w W gr S at_ bad) (hb : Below W.heap.size W W') : Gr.G w W' gr S at_ bad :=
  ⟨blk_below h.res hb, h.rd.below hb, h.ne, below_step h.below hb⟩
theorem Gr.G.far {w W : World} {gr go : Nat} {S : ByteArray} {at_ : Int} {bad : Bool} (h : Gr.G w W gr S at_ bad) (hn : gr < go) (j : Nat) (u : Value) : Gr.G w (W.setCell ⟨go, j, none⟩ u) gr S at_ bad :=
  ⟨blk_far h.res (Nat.ne_of_lt (Nat.lt_trans h.ne hn)) u, h.rd.far (Nat.ne_of_lt hn) u, h.ne, below_set h.below (Nat.le_of_lt (Nat.lt_trans h.ne hn))⟩
structure Gr.O (w W : World) (gr go : Nat) (S : ByteArray) (at_ : Int) (bad : Bool) (k q s st en v : Int) (ov : Bool) (A : Option Addr) (c : Nat) (l : List Int) (se ti sq by_ : Int) : Prop where
  g : Gr.G w W gr S at_ bad
  o : RC W go k q s st en v ov A c l se ti sq by_
  ne : gr < go
  rr : Kd.R (Kd.int .i64) 3 W w.heap.size (fun _ => True) (.slice A l.length c) l
theorem Gr.O.new {w W : World} {gr : Nat} {S : ByteArray} {at_ : Int} {bad : Bool} (h : Gr.G w W gr S at_ bad) (k : Int) : Gr.O w (W.alloc (.cells #[.int .i64 k, .int .i64 0, .int .i64 0, .int .i64 0, .int .i64 0, .int .i64 0, .bool false, .slice none 0 0, .int .i64 0, .int .i64 0, .int .i64 0, .int .i64 0] 30)) gr W.heap.size S at_ bad k 0 0 0 0 0 false none 0 [] 0 0 0 0 :=
  ⟨h.step (below_alloc (Below.refl _ _) _), by unfold RC; exact blk_new _ _, h.rd.lt, Kd.R_nil _ _ _ _ _⟩
theorem Gr.O.num {w W W' : World} {gr go : Nat} {S S' : ByteArray} {at_ at' : Int} {bad bad' : Bool} {k q s st en v : Int} {ov : Bool} {A : Option Addr} {c : Nat} {l : List Int} {se ti sq by_ : Int} (h : Gr.O w W gr go S at_ bad k q s st en v ov A c l se ti sq by_) (hI : IsS59 w W' gr S' at' bad') (hB : Below w.heap.size w W') (hK : KeepBut W W' gr none) : Gr.O w W' gr go S' at' bad' k q s st en v ov A c l se ti sq by_ :=
  ⟨h.g.num hI hB hK, by unfold RC; rw [hK.2 _ (blk_lt h.o) (Nat.ne_of_gt h.ne) (by simp)]; exact h.o, h.ne, Kd.R_mono (Kd.R_keep (Kd.R_types h.rr h.g.rd.1 (by decide)) hK (fun _ hk => hk.2)) (fun _ _ => trivial)⟩
theorem Gr.O.step {w W W' : World} {gr go : Nat} {S : ByteArray} {at_ : Int} {bad : Bool} {k q s st en v : Int} {ov : Bool} {A : Option Addr} {c : Nat} {l : List Int} {se ti sq by_ : Int} (h : Gr.O w W gr go S at_ bad k q s st en v ov A c l se ti sq by_) (hb : Below W.heap.size W W') : Gr.O w W' gr go S at_ bad k q s st en v ov A c l se ti sq by_ :=
  ⟨h.g.step hb, by unfold RC; exact blk_below h.o hb, h.ne, Kd.R_below h.rr hb⟩
theorem Gr.O.set1 {w W : World} {gr go : Nat} {S : ByteArray} {at_ : Int} {bad : Bool} {k q s st en v : Int} {ov : Bool} {A : Option Addr} {c : Nat} {l : List Int} {se ti sq by_ : Int} (h : Gr.O w W gr go S at_ bad k q s st en v ov A c l se ti sq by_) (x : Int) : Gr.O w (W.setCell ⟨go, 1, none⟩ (.int .i64 x)) gr go S at_ bad k x s st en v ov A c l se ti sq by_ := ⟨h.g.far h.ne _ _, by unfold RC; exact blk_put h.o _ _ rfl, h.ne, Kd.R_set h.rr h.o (by decide) _ _⟩
theorem Gr.O.set2 {w W : World} {gr go : Nat} {S : ByteArray} {at_ : Int} {bad : Bool} {k q s st en v : Int} {ov : Bool} {A : Option Addr} {c : Nat} {l : List Int} {se ti sq by_ : Int} (h : Gr.O w W gr go S at_ bad k q s st en v ov A c l se ti sq by_) (x : Int) : Gr.O w (W.setCell ⟨go, 2, none⟩ (.int .i64 x)) gr go S at_ bad k q x st en v ov A c l se ti sq by_ := ⟨h.g.far h.ne _ _, by unfold RC; exact blk_put h.o _ _ rfl, h.ne, Kd.R_set h.rr h.o (by decide) _ _⟩
theorem Gr.O.set3 {w W : World} {gr go : Nat} {S : ByteArray} {at_ : Int} {bad : Bool} {k q s st en v : Int} {ov : Bool} {A : Option Addr} {c : Nat} {l : List Int} {se ti sq by_ : Int} (h : Gr.O w W gr go S at_ bad k q s st en v ov A c l se ti sq by_) (x : Int) : Gr.O w (W.setCell ⟨go, 3, none⟩ (.int .i64 x)) gr go S at_ bad k q s x en v ov A c l se ti sq by_ := ⟨h.g.far h.ne _ _, by unfold RC; exact blk_put h.o _ _ rfl, h.ne, Kd.R_set h.rr h.o (by decide) _ _⟩
theorem Gr.O.set4 {w W : World} {gr go : Nat} {S : ByteArray} {at_ : Int} {bad : Bool} {k q s st en v : Int} {ov : Bool} {A : Option Addr} {c : Nat} {l : List Int} {se ti sq by_ : Int} (h : Gr.O w W gr go S at_ bad k q s st en v ov A c l se ti sq by_) (x : Int) : Gr.O w (W.setCell ⟨go, 4, none⟩ (.int .i64 x)) gr go S at_ bad k q s st x v ov A c l se ti sq by_ := ⟨h.g.far h.ne _ _, by unfold RC; exact blk_put h.o _ _ rfl, h.ne, Kd.R_set h.rr h.o (by decide) _ _⟩
theorem Gr.O.set5 {w W : World} {gr go : Nat} {S : ByteArray} {at_ : Int} {bad : Bool} {k q s st en v : Int} {ov : Bool} {A : Option Addr} {c : Nat} {l : List Int} {se ti sq by_ : Int} (h : Gr.O w W gr go S at_ bad k q s st en v ov A c l se ti sq by_) (x : Int) : Gr.O w (W.setCell ⟨go, 5, none⟩ (.int .i64 x)) gr go S at_ bad k q s st en x ov A c l se ti sq by_ := ⟨h.g.far h.ne _ _, by unfold RC; exact blk_put h.o _ _ rfl, h.ne, Kd.R_set h.rr h.o (by decide) _ _⟩
theorem Gr.O.set6 {w W : World} {gr go : Nat} {S : ByteArray} {at_ : Int} {bad : Bool} {k q s st en v : Int} {ov : Bool} {A : Option Addr} {c : Nat} {l : List Int} {se ti sq by_ : Int} (h : Gr.O w W gr go S at_ bad k q s st en v ov A c l se ti sq by_) (x : Bool) : Gr.O w (W.setCell ⟨go, 6, none⟩ (.bool x)) gr go S at_ bad k q s st en v x A c l se ti sq by_ := ⟨h.g.far h.ne _ _, by unfold RC; exact blk_put h.o _ _ rfl, h.ne, Kd.R_set h.rr h.o (by decide) _ _⟩
theorem Gr.O.set8 {w W : World} {gr go : Nat} {S : ByteArray} {at_ : Int} {bad : Bool} {k q s st en v : Int} {ov : Bool} {A : Option Addr} {c : Nat} {l : List Int} {se ti sq by_ : Int} (h : Gr.O w W gr go S at_ bad k q s st en v ov A c l se ti sq by_) (x : Int) : Gr.O w (W.setCell ⟨go, 8, none⟩ (.int .i64 x)) gr go S at_ bad k q s st en v ov A c l x ti sq by_ := ⟨h.g.far h.ne _ _, by unfold RC; exact blk_put h.o _ _ rfl, h.ne, Kd.R_set h.rr h.o (by decide) _ _⟩
theorem Gr.O.set9 {w W : World} {gr go : Nat} {S : ByteArray} {at_ : Int} {bad : Bool} {k q s st en v : Int} {ov : Bool} {A : Option Addr} {c : Nat} {l : List Int} {se ti sq by_ : Int} (h : Gr.O w W gr go S at_ bad k q s st en v ov A c l se ti sq by_) (x : Int) : Gr.O w (W.setCell ⟨go, 9, none⟩ (.int .i64 x)) gr go S at_ bad k q s st en v ov A c l se x sq by_ := ⟨h.g.far h.ne _ _, by unfold RC; exact blk_put h.o _ _ rfl, h.ne, Kd.R_set h.rr h.o (by decide) _ _⟩
theorem Gr.O.set10 {w W : World} {gr go : Nat} {S : ByteArray} {at_ : Int} {bad : Bool} {k q s st en v : Int} {ov : Bool} {A : Option Addr} {c : Nat} {l : List Int} {se ti sq by_ : Int} (h : Gr.O w W gr go S at_ bad k q s st en v ov A c l se ti sq by_) (x : Int) : Gr.O w (W.setCell ⟨go, 10, none⟩ (.int .i64 x)) gr go S at_ bad k q s st en v ov A c l se ti x by_ := ⟨h.g.far h.ne _ _, by unfold RC; exact blk_put h.o _ _ rfl, h.ne, Kd.R_set h.rr h.o (by decide) _ _⟩
theorem Gr.O.set11 {w W : World} {gr go : Nat} {S : ByteArray} {at_ : Int} {bad : Bool} {k q s st en v : Int} {ov : Bool} {A : Option Addr} {c : Nat} {l : List Int} {se ti sq by_ : Int} (h : Gr.O w W gr go S at_ bad k q s st en v ov A c l se ti sq by_) (x : Int) : Gr.O w (W.setCell ⟨go, 11, none⟩ (.int .i64 x)) gr go S at_ bad k q s st en v ov A c l se ti sq x := ⟨h.g.far h.ne _ _, by unfold RC; exact blk_put h.o _ _ rfl, h.ne, Kd.R_set h.rr h.o (by decide) _ _⟩
theorem Gr.O.set7 {w W : World} {gr go : Nat} {S : ByteArray} {at_ : Int} {bad : Bool} {k q s st en v : Int} {ov : Bool} {A : Option Addr} {c : Nat} {l : List Int} {se ti sq by_ : Int} (h : Gr.O w W gr go S at_ bad k q s st en v ov A c l se ti sq by_) (A' : Option Addr) (c' : Nat) (l' : List Int) (hr : Kd.R (Kd.int .i64) 3 W w.heap.size (fun _ => True) (.slice A' l'.length c') l') : Gr.O w (W.setCell ⟨go, 7, none⟩ (.slice A' l'.length c')) gr go S at_ bad k q s st en v ov A' c' l' se ti sq by_ := ⟨h.g.far h.ne _ _, by unfold RC; exact blk_put h.o _ _ rfl, h.ne, Kd.R_set hr h.o (by decide) _ _⟩
theorem Gr.res12 {W : World} {g : Nat} (h : W.heap[g]? = some (.cells #[.int .i64 0, .int .i64 0, .int .i64 0, .int .i64 0, .int .i64 0, .int .i64 0, .bool false, .slice none 0 0, .int .i64 0, .int .i64 0, .int .i64 0, .int .i64 0] 30 (0, 0))) (k q s st en v : Int) (ov : Bool) (A : Option Addr) (n c : Nat) (se ti sq by_ : Int) : ((((((((((((W.setCell ⟨g, 0, none⟩ (.int .i64 k)).setCell ⟨g, 1, none⟩ (.int .i64 q)).setCell ⟨g, 2, none⟩ (.int .i64 s)).setCell ⟨g, 3, none⟩ (.int .i64 st)).setCell ⟨g, 4, none⟩ (.int .i64 en)).setCell ⟨g, 5, none⟩ (.int .i64 v)).setCell ⟨g, 6, none⟩ (.bool ov)).setCell ⟨g, 7, none⟩ (.slice A n c)).setCell ⟨g, 8, none⟩ (.int .i64 se)).setCell ⟨g, 9, none⟩ (.int .i64 ti)).setCell ⟨g, 10, none⟩ (.int .i64 sq)).setCell ⟨g, 11, none⟩ (.int .i64 by_)).heap[g]? = some (.cells #[.int .i64 k, .int .i64 q, .int .i64 s, .int .i64 st, .int .i64 en, .int .i64 v, .bool ov, .slice A n c, .int .i64 se, .int .i64 ti, .int .i64 sq, .int .i64 by_] 30 (0, 0)) :=
  by
  have h0 := h
  have h1 : (W.setCell ⟨g, 0, none⟩ (.int .i64 k)).heap[g]? = some (.cells #[.int .i64 k, .int .i64 0, .int .i64 0, .int .i64 0, .int .i64 0, .int .i64 0, .bool false, .slice none 0 0, .int .i64 0, .int .i64 0, .int .i64 0, .int .i64 0] 30 (0, 0)) := blk_put h0 0 _ rfl
  have h2 : ((W.setCell ⟨g, 0, none⟩ (.int .i64 k)).setCell ⟨g, 1, none⟩ (.int .i64 q)).heap[g]? = some (.cells #[.int .i64 k, .int .i64 q, .int .i64 0, .int .i64 0, .int .i64 0, .int .i64 0, .bool false, .slice none 0 0, .int .i64 0, .int .i64 0, .int .i64 0, .int .i64 0] 30 (0, 0)) := blk_put h1 1 _ rfl
  have h3 : (((W.setCell ⟨g, 0, none⟩ (.int .i64 k)).setCell ⟨g, 1, none⟩ (.int .i64 q)).setCell ⟨g, 2, none⟩ (.int .i64 s)).heap[g]? = some (.cells #[.int .i64 k, .int .i64 q, .int .i64 s, .int .i64 0, .int .i64 0, .int .i64 0, .bool false, .slice none 0 0, .int .i64 0, .int .i64 0, .int .i64 0, .int .i64 0] 30 (0, 0)) := blk_put h2 2 _ rfl
  have h4 : ((((W.setCell ⟨g, 0, none⟩ (.int .i64 k)).setCell ⟨g, 1, none⟩ (.int .i64 q)).setCell ⟨g, 2, none⟩ (.int .i64 s)).setCell ⟨g, 3, none⟩ (.int .i64 st)).heap[g]? = some (.cells #[.int .i64 k, .int .i64 q, .int .i64 s, .int .i64 st, .int .i64 0, .int .i64 0, .bool false, .slice none 0 0, .int .i64 0, .int .i64 0, .int .i64 0, .int .i64 0] 30 (0, 0)) := blk_put h3 3 _ rfl
  have h5 : (((((W.setCell ⟨g, 0, none⟩ (.int .i64 k)).setCell ⟨g, 1, none⟩ (.int .i64 q)).setCell ⟨g, 2, none⟩ (.int .i64 s)).setCell ⟨g, 3, none⟩ (.int .i64 st)).setCell ⟨g, 4, none⟩ (.int .i64 en)).heap[g]? = some (.cells #[.int .i64 k, .int .i64 q, .int .i64 s, .int .i64 st, .int .i64 en, .int .i64 0, .bool false, .slice none 0 0, .int .i64 0, .int .i64 0, .int .i64 0, .int .i64 0] 30 (0, 0)) := blk_put h4 4 _ rfl
  have h6 : ((((((W.setCell ⟨g, 0, none⟩ (.int .i64 k)).setCell ⟨g, 1, none⟩ (.int .i64 q)).setCell ⟨g, 2, none⟩ (.int .i64 s)).setCell ⟨g, 3, none⟩ (.int .i64 st)).setCell ⟨g, 4, none⟩ (.int .i64 en)).setCell ⟨g, 5, none⟩ (.int .i64 v)).heap[g]? = some (.cells #[.int .i64 k, .int .i64 q, .int .i64 s, .int .i64 st, .int .i64 en, .int .i64 v, .bool false, .slice none 0 0, .int .i64 0, .int .i64 0, .int .i64 0, .int .i64 0] 30 (0, 0)) := blk_put h5 5 _ rfl
  have h7 : (((((((W.setCell ⟨g, 0, none⟩ (.int .i64 k)).setCell ⟨g, 1, none⟩ (.int .i64 q)).setCell ⟨g, 2, none⟩ (.int .i64 s)).setCell ⟨g, 3, none⟩ (.int .i64 st)).setCell ⟨g, 4, none⟩ (.int .i64 en)).setCell ⟨g, 5, none⟩ (.int .i64 v)).setCell ⟨g, 6, none⟩ (.bool ov)).heap[g]? = some (.cells #[.int .i64 k, .int .i64 q, .int .i64 s, .int .i64 st, .int .i64 en, .int .i64 v, .bool ov, .slice none 0 0, .int .i64 0, .int .i64 0, .int .i64 0, .int .i64 0] 30 (0, 0)) := blk_put h6 6 _ rfl
  have h8 : ((((((((W.setCell ⟨g, 0, none⟩ (.int .i64 k)).setCell ⟨g, 1, none⟩ (.int .i64 q)).setCell ⟨g, 2, none⟩ (.int .i64 s)).setCell ⟨g, 3, none⟩ (.int .i64 st)).setCell ⟨g, 4, none⟩ (.int .i64 en)).setCell ⟨g, 5, none⟩ (.int .i64 v)).setCell ⟨g, 6, none⟩ (.bool ov)).setCell ⟨g, 7, none⟩ (.slice A n c)).heap[g]? = some (.cells #[.int .i64 k, .int .i64 q, .int .i64 s, .int .i64 st, .int .i64 en, .int .i64 v, .bool ov, .slice A n c, .int .i64 0, .int .i64 0, .int .i64 0, .int .i64 0] 30 (0, 0)) := blk_put h7 7 _ rfl
  have h9 : (((((((((W.setCell ⟨g, 0, none⟩ (.int .i64 k)).setCell ⟨g, 1, none⟩ (.int .i64 q)).setCell ⟨g, 2, none⟩ (.int .i64 s)).setCell ⟨g, 3, none⟩ (.int .i64 st)).setCell ⟨g, 4, none⟩ (.int .i64 en)).setCell ⟨g, 5, none⟩ (.int .i64 v)).setCell ⟨g, 6, none⟩ (.bool ov)).setCell ⟨g, 7, none⟩ (.slice A n c)).setCell ⟨g, 8, none⟩ (.int .i64 se)).heap[g]? = some (.cells #[.int .i64 k, .int .i64 q, .int .i64 s, .int .i64 st, .int .i64 en, .int .i64 v, .bool ov, .slice A n c, .int .i64 se, .int .i64 0, .int .i64 0, .int .i64 0] 30 (0, 0)) := blk_put h8 8 _ rfl
  have h10 : ((((((((((W.setCell ⟨g, 0, none⟩ (.int .i64 k)).setCell ⟨g, 1, none⟩ (.int .i64 q)).setCell ⟨g, 2, none⟩ (.int .i64 s)).setCell ⟨g, 3, none⟩ (.int .i64 st)).setCell ⟨g, 4, none⟩ (.int .i64 en)).setCell ⟨g, 5, none⟩ (.int .i64 v)).setCell ⟨g, 6, none⟩ (.bool ov)).setCell ⟨g, 7, none⟩ (.slice A n c)).setCell ⟨g, 8, none⟩ (.int .i64 se)).setCell ⟨g, 9, none⟩ (.int .i64 ti)).heap[g]? = some (.cells #[.int .i64 k, .int .i64 q, .int .i64 s, .int .i64 st, .int .i64 en, .int .i64 v, .bool ov, .slice A n c, .int .i64 se, .int .i64 ti, .int .i64 0, .int .i64 0] 30 (0, 0)) := blk_put h9 9 _ rfl
  have h11 : (((((((((((W.setCell ⟨g, 0, none⟩ (.int .i64 k)).setCell ⟨g, 1, none⟩ (.int .i64 q)).setCell ⟨g, 2, none⟩ (.int .i64 s)).setCell ⟨g, 3, none⟩ (.int .i64 st)).setCell ⟨g, 4, none⟩ (.int .i64 en)).setCell ⟨g, 5, none⟩ (.int .i64 v)).setCell ⟨g, 6, none⟩ (.bool ov)).setCell ⟨g, 7, none⟩ (.slice A n c)).setCell ⟨g, 8, none⟩ (.int .i64 se)).setCell ⟨g, 9, none⟩ (.int .i64 ti)).setCell ⟨g, 10, none⟩ (.int .i64 sq)).heap[g]? = some (.cells #[.int .i64 k, .int .i64 q, .int .i64 s, .int .i64 st, .int .i64 en, .int .i64 v, .bool ov, .slice A n c, .int .i64 se, .int .i64 ti, .int .i64 sq, .int .i64 0] 30 (0, 0)) := blk_put h10 10 _ rfl
  have h12 : ((((((((((((W.setCell ⟨g, 0, none⟩ (.int .i64 k)).setCell ⟨g, 1, none⟩ (.int .i64 q)).setCell ⟨g, 2, none⟩ (.int .i64 s)).setCell ⟨g, 3, none⟩ (.int .i64 st)).setCell ⟨g, 4, none⟩ (.int .i64 en)).setCell ⟨g, 5, none⟩ (.int .i64 v)).setCell ⟨g, 6, none⟩ (.bool ov)).setCell ⟨g, 7, none⟩ (.slice A n c)).setCell ⟨g, 8, none⟩ (.int .i64 se)).setCell ⟨g, 9, none⟩ (.int .i64 ti)).setCell ⟨g, 10, none⟩ (.int .i64 sq)).setCell ⟨g, 11, none⟩ (.int .i64 by_)).heap[g]? = some (.cells #[.int .i64 k, .int .i64 q, .int .i64 s, .int .i64 st, .int .i64 en, .int .i64 v, .bool ov, .slice A n c, .int .i64 se, .int .i64 ti, .int .i64 sq, .int .i64 by_] 30 (0, 0)) := blk_put h11 11 _ rfl
  exact h12
theorem Gr.resR {W : World} {g base : Nat} {val : Value} {xs : List Int} (h : W.heap[g]? = some (.cells #[.int .i64 0, .int .i64 0, .int .i64 0, .int .i64 0, .int .i64 0, .int .i64 0, .bool false, .slice none 0 0, .int .i64 0, .int .i64 0, .int .i64 0, .int .i64 0] 30 (0, 0))) (hr : Kd.R (Kd.int .i64) 3 W base (fun _ => True) val xs) (k q s st en v : Int) (ov : Bool) (A : Option Addr) (n c : Nat) (se ti sq by_ : Int) : Kd.R (Kd.int .i64) 3 ((((((((((((W.setCell ⟨g, 0, none⟩ (.int .i64 k)).setCell ⟨g, 1, none⟩ (.int .i64 q)).setCell ⟨g, 2, none⟩ (.int .i64 s)).setCell ⟨g, 3, none⟩ (.int .i64 st)).setCell ⟨g, 4, none⟩ (.int .i64 en)).setCell ⟨g, 5, none⟩ (.int .i64 v)).setCell ⟨g, 6, none⟩ (.bool ov)).setCell ⟨g, 7, none⟩ (.slice A n c)).setCell ⟨g, 8, none⟩ (.int .i64 se)).setCell ⟨g, 9, none⟩ (.int .i64 ti)).setCell ⟨g, 10, none⟩ (.int .i64 sq)).setCell ⟨g, 11, none⟩ (.int .i64 by_)) base (fun _ => True) val xs :=
  Kd.R_mono (Kd.R_far (p := ⟨g, 11, none⟩) (Kd.R_far (p := ⟨g, 10, none⟩) (Kd.R_far (p := ⟨g, 9, none⟩) (Kd.R_far (p := ⟨g, 8, none⟩) (Kd.R_far (p := ⟨g, 7, none⟩) (Kd.R_far (p := ⟨g, 6, none⟩) (Kd.R_far (p := ⟨g, 5, none⟩) (Kd.R_far (p := ⟨g, 4, none⟩) (Kd.R_far (p := ⟨g, 3, none⟩) (Kd.R_far (p := ⟨g, 2, none⟩) (Kd.R_far (p := ⟨g, 1, none⟩) (Kd.R_far (p := ⟨g, 0, none⟩) (Kd.R_types hr h (by decide)) (fun _ hk => hk.2) _) (fun _ hk => hk.2) _) (fun _ hk => hk.2) _) (fun _ hk => hk.2) _) (fun _ hk => hk.2) _) (fun _ hk => hk.2) _) (fun _ hk => hk.2) _) (fun _ hk => hk.2) _) (fun _ hk => hk.2) _) (fun _ hk => hk.2) _) (fun _ hk => hk.2) _) (fun _ hk => hk.2) _) (fun _ _ => trivial)
theorem Gr.below12 {w V : World} (h : Below w.heap.size w V) (k q s st en v : Int) (ov : Bool) (A : Option Addr) (n c : Nat) (se ti sq by_ : Int) : Below w.heap.size w ((((((((((((V.setCell ⟨w.heap.size, 0, none⟩ (.int .i64 k)).setCell ⟨w.heap.size, 1, none⟩ (.int .i64 q)).setCell ⟨w.heap.size, 2, none⟩ (.int .i64 s)).setCell ⟨w.heap.size, 3, none⟩ (.int .i64 st)).setCell ⟨w.heap.size, 4, none⟩ (.int .i64 en)).setCell ⟨w.heap.size, 5, none⟩ (.int .i64 v)).setCell ⟨w.heap.size, 6, none⟩ (.bool ov)).setCell ⟨w.heap.size, 7, none⟩ (.slice A n c)).setCell ⟨w.heap.size, 8, none⟩ (.int .i64 se)).setCell ⟨w.heap.size, 9, none⟩ (.int .i64 ti)).setCell ⟨w.heap.size, 10, none⟩ (.int .i64 sq)).setCell ⟨w.heap.size, 11, none⟩ (.int .i64 by_)) :=
  (below_set (below_set (below_set (below_set (below_set (below_set (below_set (below_set (below_set (below_set (below_set (below_set h (Nat.le_refl _)) (Nat.le_refl _)) (Nat.le_refl _)) (Nat.le_refl _)) (Nat.le_refl _)) (Nat.le_refl _)) (Nat.le_refl _)) (Nat.le_refl _)) (Nat.le_refl _)) (Nat.le_refl _)) (Nat.le_refl _)) (Nat.le_refl _))
/-- So many numbers, one behind the other. -/
def lp (K : Nat) : Nat → ByteArray → Int → Bool → Option (List Int × ByteArray × Int × Bool)
  | 0, s, p, b => some ([], s, p, b)
  | n + 1, s, p, b => (bourneref1_Reader_Num.f K s p b).bind fun t => (lp K n t.2.1 t.2.2.1 t.2.2.2).bind fun u => some (t.1 :: u.1, u.2)
/-- What is answered at the end. -/
def gfin (K : Nat) (a0 : ByteArray) (r : RV) (ov : Int) (p : Int) (b : Bool) : Option (RV × Int) :=
  if b = true then some (RV.z, 1000) else if (p == (a0.size : Int)) = true then (if ov < 0 then some (RV.z, 1000) else if ov > 1 then some (RV.z, 1000) else
    (bourneref1_RecMay.f K r.k r.q r.s r.st r.en r.v r.ov r.l r.se r.ti r.sq r.by_).bind fun m => if m = true then some (r, 0) else some (RV.z, 1000)) else some (RV.z, 1000)
/-- The rest behind the first number. -/
def aft (K : Nat) (a0 : ByteArray) (t0 : Int × ByteArray × Int × Bool) : Option (RV × Int) :=
  if t0.1 = 0 then
    (bourneref1_Reader_Num.f K t0.2.1 t0.2.2.1 t0.2.2.2).bind fun t1 => (bourneref1_Reader_Num.f K t1.2.1 t1.2.2.1 t1.2.2.2).bind fun t2 =>
    (bourneref1_Reader_Num.f K t2.2.1 t2.2.2.1 t2.2.2.2).bind fun t3 => (bourneref1_Reader_Num.f K t3.2.1 t3.2.2.1 t3.2.2.2).bind fun t4 =>
    (bourneref1_Reader_Num.f K t4.2.1 t4.2.2.1 t4.2.2.2).bind fun t5 => (bourneref1_Reader_Num.f K t5.2.1 t5.2.2.1 t5.2.2.2).bind fun t6 =>
    (bourneref1_Reader_Num.f K t6.2.1 t6.2.2.1 t6.2.2.2).bind fun t7 =>
    if t7.1 < 0 then some (RV.z, 1000) else if t7.1 > 9 then some (RV.z, 1000) else
    (lp K t7.1.toNat t7.2.1 t7.2.2.1 t7.2.2.2).bind fun u => gfin K a0 ⟨0, t1.1, t2.1, t3.1, t4.1, t5.1, t6.1 == 1, u.1, 0, 0, 0, 0⟩ t6.1 u.2.2.1 u.2.2.2
  else if t0.1 = 1 ∨ t0.1 = 2 ∨ t0.1 = 3 then
    (bourneref1_Reader_Num.f K t0.2.1 t0.2.2.1 t0.2.2.2).bind fun t1 => (bourneref1_Reader_Num.f K t1.2.1 t1.2.2.1 t1.2.2.2).bind fun t2 =>
    (bourneref1_Reader_Num.f K t2.2.1 t2.2.2.1 t2.2.2.2).bind fun t3 => gfin K a0 ⟨t0.1, 0, 0, 0, 0, 0, false, [], t1.1, t2.1, t3.1, 0⟩ 0 t3.2.2.1 t3.2.2.2
  else if t0.1 = 5 then
    (bourneref1_Reader_Num.f K t0.2.1 t0.2.2.1 t0.2.2.2).bind fun t1 => gfin K a0 ⟨5, 0, 0, 0, 0, 0, false, [], 0, 0, 0, t1.1⟩ 0 t1.2.2.1 t1.2.2.2
  else gfin K a0 ⟨t0.1, 0, 0, 0, 0, 0, false, [], 0, 0, 0, 0⟩ 0 t0.2.2.1 t0.2.2.2
def gf (K : Nat) (a0 : ByteArray) : Option (RV × Int) := (bourneref1_Reader_Num.f K a0 0 false).bind fun t0 => aft K a0 t0
/-- One number more in the row. -/
theorem Gr.O.app {w W W1 : World} {gr go : Nat} {S : ByteArray} {at_ : Int} {bad : Bool} {k q s st en v : Int} {ov : Bool} {A : Option Addr} {c : Nat} {l : List Int} {se ti sq by_ : Int} (h : Gr.O w W gr go S at_ bad k q s st en v ov A c l se ti sq by_) (hg : W.grownBy W1 (Value.slice A l.length c).ownBlock) (hb : Below w.heap.size w W1) (A' : Option Addr) (c' : Nat) (l' : List Int) (hr : Kd.R (Kd.int .i64) 3 W1 w.heap.size (fun _ => True) (.slice A' l'.length c') l') :
    Gr.O w (W1.setCell ⟨go, 7, none⟩ (.slice A' l'.length c')) gr go S at_ bad k q s st en v ov A' c' l' se ti sq by_ := by
  have h1 : Gr.G w W1 gr S at_ bad := ⟨by rw [hg.block _ (blk_lt h.g.res) (Kd.R_ne h.rr h.g.res (by decide))]; exact h.g.res, h.g.rd.grown hg (Kd.R_ne h.rr h.g.rd.1 (by decide)), h.g.ne, hb⟩
  have h2 : W1.heap[go]? = _ := (hg.block _ (blk_lt h.o) (Kd.R_ne h.rr h.o (by decide))).trans h.o
  exact ⟨h1.far h.ne _ _, by unfold RC; exact blk_put h2 _ _ rfl, h.ne, Kd.R_set hr h2 (by decide) _ _⟩
theorem Gr.O.app7 {w W W1 : World} {gr go : Nat} {S : ByteArray} {at_ : Int} {bad : Bool} {k q s st en v : Int} {ov : Bool} {A : Option Addr} {c : Nat} {l : List Int} {se ti sq by_ : Int} (h : Gr.O w W gr go S at_ bad k q s st en v ov A c l se ti sq by_) (hg : W.grownBy W1 (Value.slice A l.length c).ownBlock) : W1.heap[go]? = some (.cells #[.int .i64 k, .int .i64 q, .int .i64 s, .int .i64 st, .int .i64 en, .int .i64 v, .bool ov, .slice A l.length c, .int .i64 se, .int .i64 ti, .int .i64 sq, .int .i64 by_] 30 (0, 0)) :=
  (hg.block _ (blk_lt h.o) (Kd.R_ne h.rr h.o (by decide))).trans h.o
set_option maxHeartbeats 20000000 in
set_option maxRecDepth 100000 in
theorem getrec_calls (K : Nat) (a0 : ByteArray) (r_ : RV) (e_ : Int) (w : World) (h : gf K a0 = some (r_, e_)) :
    Calls Try.prog 9 #[.string a0] w fun e w' => ∃ A c, e = .returned (.tuple #[r_.agg A c, .int .i64 e_]) ∧ Kd.R (Kd.int .i64) 3 w' w.heap.size (fun _ => True) (.slice A r_.l.length c) r_.l ∧ Below w.heap.size w w' := by
  unfold gf at h
  obtain ⟨⟨n0, s0, p0, b0⟩, h0, h⟩ := Option.bind_eq_some_iff.mp h
  have H0 := Aside0.mk h0
  have HQ := Aside0.mk h
  clear h0 h
  have G2 := Aside0.mk (Gr.G.start w a0)
  go_enter Try.func9, Try.ntmps9
  go_wp2_with fail
  refine (bourneref1_Reader_Num.calls K _ a0 0 false n0 s0 p0 b0 w _ G2.out.rd G2.out.below H0.out).mono ?_
  rintro e W3 ⟨rfl, hI, hB, hK⟩
  have G3 := Aside0.mk (G2.out.num hI hB hK)
  clear hI hB hK G2 H0
  go_upto_region 4 with (fail)
  have O0 := Aside0.mk (Gr.O.new G3.out n0)
  clear G3
  generalize hgo : W3.heap.size = go at *
  generalize W3.alloc _ = V0 at *
  clear hgo
  have y0 := blk_cell (show V0.heap[go]? = _ from O0.out.o) 0
  simp at y0
  go_upto_block 0 with (fail)
  clear y0
  go_cut [6] (fun v6 wc => ∃ (r : RV) (ov p : Int) (b : Bool) (S : ByteArray) (A : Option Addr) (c : Nat), v6 = .int .i64 ov ∧ Aside0 (gfin K a0 r ov p b = some (r_, e_)) ∧ Aside0 (Gr.O w wc (w.heap.size + 1) go S p b r.k r.q r.s r.st r.en r.v r.ov A c r.l r.se r.ti r.sq r.by_))
  case first =>
    have hq := HQ.out
    clear HQ
    unfold aft at hq
    dsimp only at hq
    rcases (show n0 = 0 ∨ n0 = 1 ∨ n0 = 2 ∨ n0 = 3 ∨ n0 = 5 ∨ (n0 ≠ 0 ∧ n0 ≠ 1 ∧ n0 ≠ 2 ∧ n0 ≠ 3 ∧ n0 ≠ 5) by omega) with rfl | rfl | rfl | rfl | rfl | ⟨c0, c1, c2, c3, c5⟩
    · rw [if_pos rfl] at hq
      obtain ⟨⟨n1, s1, p1, b1⟩, h1, hq⟩ := Option.bind_eq_some_iff.mp hq
      have H1 := Aside0.mk h1
      clear h1
      dsimp only at hq
      obtain ⟨⟨n2, s2, p2, b2⟩, h2, hq⟩ := Option.bind_eq_some_iff.mp hq
      have H2 := Aside0.mk h2
      clear h2
      dsimp only at hq
      obtain ⟨⟨n3, s3, p3, b3⟩, h3, hq⟩ := Option.bind_eq_some_iff.mp hq
      have H3 := Aside0.mk h3
      clear h3
      dsimp only at hq
      obtain ⟨⟨n4, s4, p4, b4⟩, h4, hq⟩ := Option.bind_eq_some_iff.mp hq
      have H4 := Aside0.mk h4
      clear h4
      dsimp only at hq
      obtain ⟨⟨n5, s5, p5, b5⟩, h5, hq⟩ := Option.bind_eq_some_iff.mp hq
      have H5 := Aside0.mk h5
      clear h5
      dsimp only at hq
      obtain ⟨⟨n6, s6, p6, b6⟩, h6, hq⟩ := Option.bind_eq_some_iff.mp hq
      have H6 := Aside0.mk h6
      clear h6
      dsimp only at hq
      obtain ⟨⟨n7, s7, p7, b7⟩, h7, hq⟩ := Option.bind_eq_some_iff.mp hq
      have H7 := Aside0.mk h7
      clear h7
      dsimp only at hq
      have HQ := Aside0.mk hq
      clear hq
      go_wp2_with fail
      refine (bourneref1_Reader_Num.calls K _ s0 p0 b0 n1 s1 p1 b1 w _ O0.out.g.rd O0.out.g.below H1.out).mono ?_
      rintro e V1 ⟨rfl, hI, hB, hK⟩
      have P1 := Aside0.mk (O0.out.num hI hB hK)
      clear hI hB hK O0 H1
      have z := blk_cell (show V1.heap[go]? = _ from P1.out.o) 1
      simp at z
      have f := blk_frozen (show V1.heap[go]? = _ from P1.out.o) 1
      go_wp2_with fail
      have O1 := Aside0.mk (P1.out.set1 n1)
      clear z f P1
      generalize V1.setCell ⟨go, 1, none⟩ (.int .i64 n1) = U1 at *
      refine (bourneref1_Reader_Num.calls K _ s1 p1 b1 n2 s2 p2 b2 w _ O1.out.g.rd O1.out.g.below H2.out).mono ?_
      rintro e V2 ⟨rfl, hI, hB, hK⟩
      have P2 := Aside0.mk (O1.out.num hI hB hK)
      clear hI hB hK O1 H2
      have z := blk_cell (show V2.heap[go]? = _ from P2.out.o) 2
      simp at z
      have f := blk_frozen (show V2.heap[go]? = _ from P2.out.o) 2
      go_wp2_with fail
      have O2 := Aside0.mk (P2.out.set2 n2)
      clear z f P2
      generalize V2.setCell ⟨go, 2, none⟩ (.int .i64 n2) = U2 at *
      refine (bourneref1_Reader_Num.calls K _ s2 p2 b2 n3 s3 p3 b3 w _ O2.out.g.rd O2.out.g.below H3.out).mono ?_
      rintro e V3 ⟨rfl, hI, hB, hK⟩
      have P3 := Aside0.mk (O2.out.num hI hB hK)
      clear hI hB hK O2 H3
      have z := blk_cell (show V3.heap[go]? = _ from P3.out.o) 3
      simp at z
      have f := blk_frozen (show V3.heap[go]? = _ from P3.out.o) 3
      go_wp2_with fail
      have O3 := Aside0.mk (P3.out.set3 n3)
      clear z f P3
      generalize V3.setCell ⟨go, 3, none⟩ (.int .i64 n3) = U3 at *
      refine (bourneref1_Reader_Num.calls K _ s3 p3 b3 n4 s4 p4 b4 w _ O3.out.g.rd O3.out.g.below H4.out).mono ?_
      rintro e V4 ⟨rfl, hI, hB, hK⟩
      have P4 := Aside0.mk (O3.out.num hI hB hK)
      clear hI hB hK O3 H4
      have z := blk_cell (show V4.heap[go]? = _ from P4.out.o) 4
      simp at z
      have f := blk_frozen (show V4.heap[go]? = _ from P4.out.o) 4
      go_wp2_with fail
      have O4 := Aside0.mk (P4.out.set4 n4)
      clear z f P4
      generalize V4.setCell ⟨go, 4, none⟩ (.int .i64 n4) = U4 at *
      refine (bourneref1_Reader_Num.calls K _ s4 p4 b4 n5 s5 p5 b5 w _ O4.out.g.rd O4.out.g.below H5.out).mono ?_
      rintro e V5 ⟨rfl, hI, hB, hK⟩
      have P5 := Aside0.mk (O4.out.num hI hB hK)
      clear hI hB hK O4 H5
      have z := blk_cell (show V5.heap[go]? = _ from P5.out.o) 5
      simp at z
      have f := blk_frozen (show V5.heap[go]? = _ from P5.out.o) 5
      go_wp2_with fail
      have O5 := Aside0.mk (P5.out.set5 n5)
      clear z f P5
      generalize V5.setCell ⟨go, 5, none⟩ (.int .i64 n5) = U5 at *
      refine (bourneref1_Reader_Num.calls K _ s5 p5 b5 n6 s6 p6 b6 w _ O5.out.g.rd O5.out.g.below H6.out).mono ?_
      rintro e V6 ⟨rfl, hI, hB, hK⟩
      have P6 := Aside0.mk (O5.out.num hI hB hK)
      clear hI hB hK O5 H6
      have z := blk_cell (show V6.heap[go]? = _ from P6.out.o) 6
      simp at z
      have f := blk_frozen (show V6.heap[go]? = _ from P6.out.o) 6
      go_wp2_with fail
      have O6 := Aside0.mk (P6.out.set6 (n6 == 1))
      clear z f P6
      generalize V6.setCell ⟨go, 6, none⟩ (.bool (n6 == 1)) = U6 at *
      refine (bourneref1_Reader_Num.calls K _ s6 p6 b6 n7 s7 p7 b7 w _ O6.out.g.rd O6.out.g.below H7.out).mono ?_
      rintro e V7 ⟨rfl, hI, hB, hK⟩
      have P7 := Aside0.mk (O6.out.num hI hB hK)
      clear hI hB hK O6 H7
      have B9 := Aside0.mk P7.out.g.below
      have h := HQ.out
      clear HQ
      by_cases k0 : n7 < 0
      · rw [if_pos k0] at h
        obtain ⟨rfl, rfl⟩ : RV.z = r_ ∧ 1000 = e_ := by simpa only [Option.some.injEq, Prod.mk.injEq] using h
        clear h
        have k0b : decide (n7 < 0) = true := decide_eq_true k0
        clear k0
        have x0 := blk_cell P7.out.g.res 0
        simp at x0
        have x1 := blk_cell P7.out.g.res 1
        simp at x1
        have x2 := blk_cell P7.out.g.res 2
        simp at x2
        have x3 := blk_cell P7.out.g.res 3
        simp at x3
        have x4 := blk_cell P7.out.g.res 4
        simp at x4
        have x5 := blk_cell P7.out.g.res 5
        simp at x5
        have x6 := blk_cell P7.out.g.res 6
        simp at x6
        have x7 := blk_cell P7.out.g.res 7
        simp at x7
        have x8 := blk_cell P7.out.g.res 8
        simp at x8
        have x9 := blk_cell P7.out.g.res 9
        simp at x9
        have x10 := blk_cell P7.out.g.res 10
        simp at x10
        have x11 := blk_cell P7.out.g.res 11
        simp at x11
        have f0 := blk_frozen P7.out.g.res 0
        have f1 := blk_frozen P7.out.g.res 1
        have f2 := blk_frozen P7.out.g.res 2
        have f3 := blk_frozen P7.out.g.res 3
        have f4 := blk_frozen P7.out.g.res 4
        have f5 := blk_frozen P7.out.g.res 5
        have f6 := blk_frozen P7.out.g.res 6
        have f7 := blk_frozen P7.out.g.res 7
        have f8 := blk_frozen P7.out.g.res 8
        have f9 := blk_frozen P7.out.g.res 9
        have f10 := blk_frozen P7.out.g.res 10
        have f11 := blk_frozen P7.out.g.res 11
        go_wp2_with fail
        have E1 := Gr.res12 P7.out.g.res 0 0 0 0 0 0 false none 0 0 0 0 0 0
        have E2 := Gr.resR (base := w.heap.size) P7.out.g.res (Kd.R_nil _ _ _ _ _) 0 0 0 0 0 0 false none 0 0 0 0 0 0
        have E3 := Gr.below12 B9.out 0 0 0 0 0 0 false none 0 0 0 0 0 0
        (try simp only [Exit.inBlock, Exit.then])
        generalize ((((((((((((V7.setCell ⟨w.heap.size, 0, none⟩ (.int .i64 0)).setCell ⟨w.heap.size, 1, none⟩ (.int .i64 0)).setCell ⟨w.heap.size, 2, none⟩ (.int .i64 0)).setCell ⟨w.heap.size, 3, none⟩ (.int .i64 0)).setCell ⟨w.heap.size, 4, none⟩ (.int .i64 0)).setCell ⟨w.heap.size, 5, none⟩ (.int .i64 0)).setCell ⟨w.heap.size, 6, none⟩ (.bool false)).setCell ⟨w.heap.size, 7, none⟩ (.slice none 0 0)).setCell ⟨w.heap.size, 8, none⟩ (.int .i64 0)).setCell ⟨w.heap.size, 9, none⟩ (.int .i64 0)).setCell ⟨w.heap.size, 10, none⟩ (.int .i64 0)).setCell ⟨w.heap.size, 11, none⟩ (.int .i64 0)) = W9 at E1 E2 E3 ⊢
        clear P7 B9
        refine bodyPost_ret (results_ct rfl _ _ w.heap.size 30 #[.int .i64 0, .int .i64 0, .int .i64 0, .int .i64 0, .int .i64 0, .int .i64 0, .bool false, .slice none 0 0, .int .i64 0, .int .i64 0, .int .i64 0, .int .i64 0] (0, 0) _ rfl E1 Try.underlying30 rfl (by kernel_rfl)) rfl ?_
        exact ⟨none, 0, rfl, E2, E3⟩
      · rw [if_neg k0] at h
        have k0b : decide (n7 < 0) = false := decide_eq_false k0
        by_cases k9 : n7 > 9
        · rw [if_pos k9] at h
          obtain ⟨rfl, rfl⟩ : RV.z = r_ ∧ 1000 = e_ := by simpa only [Option.some.injEq, Prod.mk.injEq] using h
          clear h
          have k9b : decide (9 < n7) = true := decide_eq_true k9
          clear k0 k9
          have x0 := blk_cell P7.out.g.res 0
          simp at x0
          have x1 := blk_cell P7.out.g.res 1
          simp at x1
          have x2 := blk_cell P7.out.g.res 2
          simp at x2
          have x3 := blk_cell P7.out.g.res 3
          simp at x3
          have x4 := blk_cell P7.out.g.res 4
          simp at x4
          have x5 := blk_cell P7.out.g.res 5
          simp at x5
          have x6 := blk_cell P7.out.g.res 6
          simp at x6
          have x7 := blk_cell P7.out.g.res 7
          simp at x7
          have x8 := blk_cell P7.out.g.res 8
          simp at x8
          have x9 := blk_cell P7.out.g.res 9
          simp at x9
          have x10 := blk_cell P7.out.g.res 10
          simp at x10
          have x11 := blk_cell P7.out.g.res 11
          simp at x11
          have f0 := blk_frozen P7.out.g.res 0
          have f1 := blk_frozen P7.out.g.res 1
          have f2 := blk_frozen P7.out.g.res 2
          have f3 := blk_frozen P7.out.g.res 3
          have f4 := blk_frozen P7.out.g.res 4
          have f5 := blk_frozen P7.out.g.res 5
          have f6 := blk_frozen P7.out.g.res 6
          have f7 := blk_frozen P7.out.g.res 7
          have f8 := blk_frozen P7.out.g.res 8
          have f9 := blk_frozen P7.out.g.res 9
          have f10 := blk_frozen P7.out.g.res 10
          have f11 := blk_frozen P7.out.g.res 11
          go_wp2_with fail
          have E1 := Gr.res12 P7.out.g.res 0 0 0 0 0 0 false none 0 0 0 0 0 0
          have E2 := Gr.resR (base := w.heap.size) P7.out.g.res (Kd.R_nil _ _ _ _ _) 0 0 0 0 0 0 false none 0 0 0 0 0 0
          have E3 := Gr.below12 B9.out 0 0 0 0 0 0 false none 0 0 0 0 0 0
          (try simp only [Exit.inBlock, Exit.then])
          generalize ((((((((((((V7.setCell ⟨w.heap.size, 0, none⟩ (.int .i64 0)).setCell ⟨w.heap.size, 1, none⟩ (.int .i64 0)).setCell ⟨w.heap.size, 2, none⟩ (.int .i64 0)).setCell ⟨w.heap.size, 3, none⟩ (.int .i64 0)).setCell ⟨w.heap.size, 4, none⟩ (.int .i64 0)).setCell ⟨w.heap.size, 5, none⟩ (.int .i64 0)).setCell ⟨w.heap.size, 6, none⟩ (.bool false)).setCell ⟨w.heap.size, 7, none⟩ (.slice none 0 0)).setCell ⟨w.heap.size, 8, none⟩ (.int .i64 0)).setCell ⟨w.heap.size, 9, none⟩ (.int .i64 0)).setCell ⟨w.heap.size, 10, none⟩ (.int .i64 0)).setCell ⟨w.heap.size, 11, none⟩ (.int .i64 0)) = W9 at E1 E2 E3 ⊢
          clear P7 B9
          refine bodyPost_ret (results_ct rfl _ _ w.heap.size 30 #[.int .i64 0, .int .i64 0, .int .i64 0, .int .i64 0, .int .i64 0, .int .i64 0, .bool false, .slice none 0 0, .int .i64 0, .int .i64 0, .int .i64 0, .int .i64 0] (0, 0) _ rfl E1 Try.underlying30 rfl (by kernel_rfl)) rfl ?_
          exact ⟨none, 0, rfl, E2, E3⟩
        · rw [if_neg k9] at h
          have k9b : decide (9 < n7) = false := decide_eq_false k9
          obtain ⟨m, rfl⟩ := Int.eq_ofNat_of_zero_le (show 0 ≤ n7 by omega)
          have hm : m ≤ 9 := by omega
          have hmz : (m : Int) ≤ 9 := by omega
          have HQ := Aside0.mk h
          clear h k0 k9 B9
          go_wp2_with fail
          go_loopg [8] m (fun kq v8 w' => ∃ (i : Nat) (xs : List Int) (s : ByteArray) (p : Int) (b : Bool) (A : Option Addr) (c : Nat), v8 = .int .i64 (i : Int) ∧ Aside0 (i + kq = m) ∧ Aside0 (xs.length = i) ∧ Aside0 ((lp K kq s p b).bind (fun u => gfin K a0 ⟨0, n1, n2, n3, n4, n5, n6 == 1, xs ++ u.1, 0, 0, 0, 0⟩ n6 u.2.2.1 u.2.2.2) = some (r_, e_)) ∧ Aside0 (Gr.O w w' (w.heap.size + 1) go s p b 0 n1 n2 n3 n4 n5 (n6 == 1) A c xs 0 0 0 0))
          case atStart => exact ⟨0, [], _, _, _, none, 0, rfl, ⟨by omega⟩, ⟨rfl⟩, ⟨by have := HQ.out; simpa using this⟩, P7⟩
          case round =>
            clear P7 HQ
            obtain ⟨i, xs, s, p, b, A, c, rfl, HI, HX, HL, HO⟩ := hrel
            cases gk with
            | zero =>
              have e := HI.out
              have hz : decide ((i : Int) < (m : Int)) = false := decide_eq_false (by omega)
              have hz2 : ¬ ((i : Int) < (m : Int)) := by omega
              have hz3 : ¬ (i < m) := by omega
              have hl := HL.out
              simp only [lp, Option.bind_some, List.append_nil] at hl
              have HF := Aside0.mk hl
              clear hl e HL
              go_wp2_with fail
              go_meet
              case rel => exact ⟨_, _, _, _, _, _, _, rfl, HF, HO⟩
            | succ kq =>
              have e := HI.out
              have hz : decide ((i : Int) < (m : Int)) = true := decide_eq_true (by omega)
              have hz2 : (i : Int) < (m : Int) := by omega
              have hz3 : i < m := by omega
              have hi1 : (0 : Int) ≤ (i : Int) + 1 := by omega
              have hi2 : (i : Int) + 1 ≤ 10 := by omega
              have hl := HL.out
              clear HL
              simp only [lp] at hl
              rw [Option.bind_assoc] at hl
              obtain ⟨⟨x, s2, p2, b2⟩, ht, hl⟩ := Option.bind_eq_some_iff.mp hl
              have HT := Aside0.mk ht
              have HL2 := Aside0.mk hl
              have HE := Aside0.mk e
              have hxl : (xs.length + 1) * 8 ≤ 140737488355328 := by have := HX.out; omega
              have HXL := Aside0.mk hxl
              clear ht hl e hxl
              go_upto_region 19 with (fail)
              have HO1 := Aside0.mk (HO.out.step (below_drew1 (Below.refl _ _)))
              clear HO
              refine start_ (n := 12) (S := fun w' => w'.cell? ⟨go, 7, none⟩ = some (.slice A xs.length c)) (ds := [11]) #[false, false, false, false, false, false, false, false, false, false, false, false] (by kernel_rfl) rfl rfl (by have z := blk_cell (show wr.drew.heap[go]? = _ from HO1.out.o) 7; simpa using z) (fun hHeld => ?_)
              generalize wr.drew = wd at HO1 hHeld ⊢
              refine pure_ (i := 0) (N := some 63) (v := ?_) (a' := ?_) #[true, false, false, false, false, false, false, false, false, false, false, false] rfl rfl (by kernel_rfl) (fun _ _ _ h => h) (Or.inl ⟨by rfl, ?_⟩) ?_ ?_
              rotate_left
              · intro w'
                go_simp
                with_reducible rfl
              rotate_left
              · simp only [Act.put, List.setIfInBounds_toArray, List.set_cons_zero, List.set_cons_succ, i64_w, i32_w]
                rfl
              refine pure_ (i := 1) (N := some 64) (v := ?_) (a' := ?_) #[true, true, false, false, false, false, false, false, false, false, false, false] rfl rfl (by kernel_rfl) (fun _ _ _ h => h) (Or.inl ⟨by rfl, ?_⟩) ?_ ?_
              rotate_left
              · intro w'
                go_simp
                with_reducible rfl
              rotate_left
              · simp only [Act.put, List.setIfInBounds_toArray, List.set_cons_zero, List.set_cons_succ, i64_w, i32_w]
                rfl
              refine pure_ (i := 2) (N := some 65) (v := ?_) (a' := ?_) #[true, true, true, false, false, false, false, false, false, false, false, false] rfl rfl (by kernel_rfl) (fun _ _ _ h => h) (Or.inl ⟨by rfl, ?_⟩) ?_ ?_
              rotate_left
              · intro w'
                go_simp
                with_reducible rfl
              rotate_left
              · simp only [Act.put, List.setIfInBounds_toArray, List.set_cons_zero, List.set_cons_succ, i64_w, i32_w]
                rfl
              refine take_ (i := 3) (N := some 66) (v := ?_) (a' := ?_) #[true, true, true, true, false, false, false, false, false, false, false, false] rfl rfl (by kernel_rfl) (fun _ _ _ h => h) (Or.inl ⟨by rfl, ?_⟩) hHeld ?_ ?_
              rotate_left
              · intro w' s0
                go_simp
                with_reducible rfl
              rotate_left
              · simp only [Act.put, List.setIfInBounds_toArray, List.set_cons_zero, List.set_cons_succ, i64_w, i32_w]
                rfl
              refine pure_ (i := 4) (N := some 67) (v := ?_) (a' := ?_) #[true, true, true, true, true, false, false, false, false, false, false, false] rfl rfl (by kernel_rfl) (fun _ _ _ h => h) (Or.inl ⟨by rfl, ?_⟩) ?_ ?_
              rotate_left
              · intro w'
                go_simp
                with_reducible rfl
              rotate_left
              · simp only [Act.put, List.setIfInBounds_toArray, List.set_cons_zero, List.set_cons_succ, i64_w, i32_w]
                rfl
              refine one_ (i := 5) (N := some 68) #[true, true, true, true, true, true, false, false, false, false, false, false] rfl rfl (by kernel_rfl) (by decide) (fun K hK => ?_)
              refine goes_ Try.func23 (by kernel_rfl) rfl #[.pointer (some ⟨w.heap.size + 1, 0, none⟩)] (by rfl) rfl rfl (by (try simp only [List.map_toArray, List.map_cons, List.map_nil]); first | done | rfl) ?_
              with_reducible refine (bourneref1_Reader_Num.calls _ _ s p b x s2 p2 b2 w _ HO1.out.g.rd HO1.out.g.below HT.out).mono ?_
              rintro e w2 ⟨rfl, hi, hb, hk⟩
              refine ⟨_, rfl, ?_⟩
              have HO2 := Aside0.mk (HO1.out.num hi hb hk)
              clear hi hb hk HO1
              refine hK.out _ _ (by have z := blk_cell (show w2.heap[go]? = _ from HO2.out.o) 7; simpa using z) (fun hHeld => ?_)
              clear hK K
              refine norm_ (a' := ?_) ?_ ?_
              rotate_left
              · show Act.put _ (some 68) _ = _
                simp only [Act.put, List.setIfInBounds_toArray, List.set_cons_zero, List.set_cons_succ, i64_w, i32_w]
                rfl
              refine one_ (i := 6) (N := some 69) #[true, true, true, true, true, true, true, false, false, false, false, false] rfl rfl (by kernel_rfl) (by decide) (fun K hK => ?_)
              refine value_ (w1 := ?_) (v := ?_) (by rfl) rfl ?_ ?_
              rotate_left 2
              · go_simp
                constructor
                · rfl
                · rfl
              refine hK.out _ _ (by have z := blk_cell (blk_alloc (show w2.heap[go]? = _ from HO2.out.o) (.cells #[.int .i64 x] 3 (0, 0))) 7; simpa using z) (fun hHeld => ?_)
              clear hK K
              refine norm_ (a' := ?_) ?_ ?_
              rotate_left
              · show Act.put _ (some 69) _ = _
                simp only [Act.put, List.setIfInBounds_toArray, List.set_cons_zero, List.set_cons_succ, i64_w, i32_w]
                rfl
              refine one_ (i := 7) (N := some 70) #[true, true, true, true, true, true, true, true, false, false, false, false] rfl rfl (by kernel_rfl) (by decide) (fun K hK => ?_)
              refine Kd.R_append_step (Kd.int .i64) (w0 := w) w.heap.size (by rfl) (.tmp 66) (.tmp 69) 24 3 (.int .i64 0) 8 rfl Try.underlying24 info3 rfl (by decide) (by omega) (.slice A xs.length c) xs x [.int .i64 x] (fun _ => True) (fun _ => False) rfl rfl rfl (fun _ hk => hk.elim) (fun _ _ => trivial) HO2.out.rr HO2.out.g.below HO2.out.g.below.size HXL.out ?_
              intro v1 w3 hr1 hb1 hg1 hat1
              obtain ⟨A', c', rfl⟩ := Kd.R_slice hr1
              have HO4 := Aside0.mk (HO2.out.app hg1 hb1 A' c' (xs ++ [x]) hr1)
              have h7 := HO2.out.app7 hg1
              have x7 := blk_cell h7 7
              have f7 := blk_frozen h7 7
              clear hr1 hb1 hg1 hat1 HO2 h7
              refine hK.out _ _ (by simpa using x7) (fun hHeld => ?_)
              clear hK K
              refine norm_ (a' := ?_) ?_ ?_
              rotate_left
              · show Act.put _ (some 70) _ = _
                simp only [Act.put, List.setIfInBounds_toArray, List.set_cons_zero, List.set_cons_succ, i64_w, i32_w]
                rfl
              refine pure_ (i := 8) (N := some 71) (v := ?_) (a' := ?_) #[true, true, true, true, true, true, true, true, true, false, false, false] rfl rfl (by kernel_rfl) (fun _ _ _ h => h) (Or.inl ⟨by rfl, ?_⟩) ?_ ?_
              rotate_left
              · intro w'
                go_simp
                with_reducible rfl
              rotate_left
              · simp only [Act.put, List.setIfInBounds_toArray, List.set_cons_zero, List.set_cons_succ, i64_w, i32_w]
                rfl
              refine pure_ (i := 9) (N := some 72) (v := ?_) (a' := ?_) #[true, true, true, true, true, true, true, true, true, true, false, false] rfl rfl (by kernel_rfl) (fun _ _ _ h => h) (Or.inl ⟨by rfl, ?_⟩) ?_ ?_
              rotate_left
              · intro w'
                go_simp
                with_reducible rfl
              rotate_left
              · simp only [Act.put, List.setIfInBounds_toArray, List.set_cons_zero, List.set_cons_succ, i64_w, i32_w]
                rfl
              refine pure_ (i := 10) (N := some 73) (v := ?_) (a' := ?_) #[true, true, true, true, true, true, true, true, true, true, true, false] rfl rfl (by kernel_rfl) (fun _ _ _ h => h) (Or.inl ⟨by rfl, ?_⟩) ?_ ?_
              rotate_left
              · intro w'
                go_simp
                with_reducible rfl
              rotate_left
              · simp only [Act.put, List.setIfInBounds_toArray, List.set_cons_zero, List.set_cons_succ, i64_w, i32_w]
                rfl
              refine last_ (i := 11) (N := none) #[true, true, true, true, true, true, true, true, true, true, true, true] rfl rfl (by kernel_rfl) (by decide) (fun K hK => ?_)
              refine skip_ (w1 := ?_) (by rfl) rfl ?_ ?_
              rotate_left
              · go_simp
                rfl
              refine hK.out _ _ ?_
              clear hK K x7 f7
              refine done_ (by kernel_rfl) ?_
              try go_wp2
              go_roundg kq
              case measure => omega
              case rel => exact ⟨i + 1, xs ++ [x], s2, p2, b2, A', c', by first | rfl | (simp; done) | (congr 1; omega), ⟨by have := HE.out; omega⟩, ⟨by have := HX.out; simp [this]⟩, ⟨by have := HL2.out; rw [Option.bind_assoc] at this; simpa [List.append_assoc] using this⟩, by have z := HO4; simp only [List.length_append, List.length_singleton] at z; exact z⟩
    · rw [if_neg (by decide), if_pos (by decide)] at hq
      obtain ⟨⟨n1, s1, p1, b1⟩, h1, hq⟩ := Option.bind_eq_some_iff.mp hq
      have H1 := Aside0.mk h1
      clear h1
      dsimp only at hq
      obtain ⟨⟨n2, s2, p2, b2⟩, h2, hq⟩ := Option.bind_eq_some_iff.mp hq
      have H2 := Aside0.mk h2
      clear h2
      dsimp only at hq
      obtain ⟨⟨n3, s3, p3, b3⟩, h3, hq⟩ := Option.bind_eq_some_iff.mp hq
      have H3 := Aside0.mk h3
      clear h3
      dsimp only at hq
      have HF := Aside0.mk hq
      clear hq
      go_wp2_with fail
      refine (bourneref1_Reader_Num.calls K _ s0 p0 b0 n1 s1 p1 b1 w _ O0.out.g.rd O0.out.g.below H1.out).mono ?_
      rintro e V1 ⟨rfl, hI, hB, hK⟩
      have P1 := Aside0.mk (O0.out.num hI hB hK)
      clear hI hB hK O0 H1
      have z := blk_cell (show V1.heap[go]? = _ from P1.out.o) 8
      simp at z
      have f := blk_frozen (show V1.heap[go]? = _ from P1.out.o) 8
      go_wp2_with fail
      have O1 := Aside0.mk (P1.out.set8 n1)
      clear z f P1
      generalize V1.setCell ⟨go, 8, none⟩ (.int .i64 n1) = U1 at *
      refine (bourneref1_Reader_Num.calls K _ s1 p1 b1 n2 s2 p2 b2 w _ O1.out.g.rd O1.out.g.below H2.out).mono ?_
      rintro e V2 ⟨rfl, hI, hB, hK⟩
      have P2 := Aside0.mk (O1.out.num hI hB hK)
      clear hI hB hK O1 H2
      have z := blk_cell (show V2.heap[go]? = _ from P2.out.o) 9
      simp at z
      have f := blk_frozen (show V2.heap[go]? = _ from P2.out.o) 9
      go_wp2_with fail
      have O2 := Aside0.mk (P2.out.set9 n2)
      clear z f P2
      generalize V2.setCell ⟨go, 9, none⟩ (.int .i64 n2) = U2 at *
      refine (bourneref1_Reader_Num.calls K _ s2 p2 b2 n3 s3 p3 b3 w _ O2.out.g.rd O2.out.g.below H3.out).mono ?_
      rintro e V3 ⟨rfl, hI, hB, hK⟩
      have P3 := Aside0.mk (O2.out.num hI hB hK)
      clear hI hB hK O2 H3
      have z := blk_cell (show V3.heap[go]? = _ from P3.out.o) 10
      simp at z
      have f := blk_frozen (show V3.heap[go]? = _ from P3.out.o) 10
      go_wp2_with fail
      go_meet
      case rel => exact ⟨_, _, _, _, _, none, 0, rfl, HF, ⟨P3.out.set10 n3⟩⟩
    · rw [if_neg (by decide), if_pos (by decide)] at hq
      obtain ⟨⟨n1, s1, p1, b1⟩, h1, hq⟩ := Option.bind_eq_some_iff.mp hq
      have H1 := Aside0.mk h1
      clear h1
      dsimp only at hq
      obtain ⟨⟨n2, s2, p2, b2⟩, h2, hq⟩ := Option.bind_eq_some_iff.mp hq
      have H2 := Aside0.mk h2
      clear h2
      dsimp only at hq
      obtain ⟨⟨n3, s3, p3, b3⟩, h3, hq⟩ := Option.bind_eq_some_iff.mp hq
      have H3 := Aside0.mk h3
      clear h3
      dsimp only at hq
      have HF := Aside0.mk hq
      clear hq
      go_wp2_with fail
      refine (bourneref1_Reader_Num.calls K _ s0 p0 b0 n1 s1 p1 b1 w _ O0.out.g.rd O0.out.g.below H1.out).mono ?_
      rintro e V1 ⟨rfl, hI, hB, hK⟩
      have P1 := Aside0.mk (O0.out.num hI hB hK)
      clear hI hB hK O0 H1
      have z := blk_cell (show V1.heap[go]? = _ from P1.out.o) 8
      simp at z
      have f := blk_frozen (show V1.heap[go]? = _ from P1.out.o) 8
      go_wp2_with fail
      have O1 := Aside0.mk (P1.out.set8 n1)
      clear z f P1
      generalize V1.setCell ⟨go, 8, none⟩ (.int .i64 n1) = U1 at *
      refine (bourneref1_Reader_Num.calls K _ s1 p1 b1 n2 s2 p2 b2 w _ O1.out.g.rd O1.out.g.below H2.out).mono ?_
      rintro e V2 ⟨rfl, hI, hB, hK⟩
      have P2 := Aside0.mk (O1.out.num hI hB hK)
      clear hI hB hK O1 H2
      have z := blk_cell (show V2.heap[go]? = _ from P2.out.o) 9
      simp at z
      have f := blk_frozen (show V2.heap[go]? = _ from P2.out.o) 9
      go_wp2_with fail
      have O2 := Aside0.mk (P2.out.set9 n2)
      clear z f P2
      generalize V2.setCell ⟨go, 9, none⟩ (.int .i64 n2) = U2 at *
      refine (bourneref1_Reader_Num.calls K _ s2 p2 b2 n3 s3 p3 b3 w _ O2.out.g.rd O2.out.g.below H3.out).mono ?_
      rintro e V3 ⟨rfl, hI, hB, hK⟩
      have P3 := Aside0.mk (O2.out.num hI hB hK)
      clear hI hB hK O2 H3
      have z := blk_cell (show V3.heap[go]? = _ from P3.out.o) 10
      simp at z
      have f := blk_frozen (show V3.heap[go]? = _ from P3.out.o) 10
      go_wp2_with fail
      go_meet
      case rel => exact ⟨_, _, _, _, _, none, 0, rfl, HF, ⟨P3.out.set10 n3⟩⟩
    · rw [if_neg (by decide), if_pos (by decide)] at hq
      obtain ⟨⟨n1, s1, p1, b1⟩, h1, hq⟩ := Option.bind_eq_some_iff.mp hq
      have H1 := Aside0.mk h1
      clear h1
      dsimp only at hq
      obtain ⟨⟨n2, s2, p2, b2⟩, h2, hq⟩ := Option.bind_eq_some_iff.mp hq
      have H2 := Aside0.mk h2
      clear h2
      dsimp only at hq
      obtain ⟨⟨n3, s3, p3, b3⟩, h3, hq⟩ := Option.bind_eq_some_iff.mp hq
      have H3 := Aside0.mk h3
      clear h3
      dsimp only at hq
      have HF := Aside0.mk hq
      clear hq
      go_wp2_with fail
      refine (bourneref1_Reader_Num.calls K _ s0 p0 b0 n1 s1 p1 b1 w _ O0.out.g.rd O0.out.g.below H1.out).mono ?_
      rintro e V1 ⟨rfl, hI, hB, hK⟩
      have P1 := Aside0.mk (O0.out.num hI hB hK)
      clear hI hB hK O0 H1
      have z := blk_cell (show V1.heap[go]? = _ from P1.out.o) 8
      simp at z
      have f := blk_frozen (show V1.heap[go]? = _ from P1.out.o) 8
      go_wp2_with fail
      have O1 := Aside0.mk (P1.out.set8 n1)
      clear z f P1
      generalize V1.setCell ⟨go, 8, none⟩ (.int .i64 n1) = U1 at *
      refine (bourneref1_Reader_Num.calls K _ s1 p1 b1 n2 s2 p2 b2 w _ O1.out.g.rd O1.out.g.below H2.out).mono ?_
      rintro e V2 ⟨rfl, hI, hB, hK⟩
      have P2 := Aside0.mk (O1.out.num hI hB hK)
      clear hI hB hK O1 H2
      have z := blk_cell (show V2.heap[go]? = _ from P2.out.o) 9
      simp at z
      have f := blk_frozen (show V2.heap[go]? = _ from P2.out.o) 9
      go_wp2_with fail
      have O2 := Aside0.mk (P2.out.set9 n2)
      clear z f P2
      generalize V2.setCell ⟨go, 9, none⟩ (.int .i64 n2) = U2 at *
      refine (bourneref1_Reader_Num.calls K _ s2 p2 b2 n3 s3 p3 b3 w _ O2.out.g.rd O2.out.g.below H3.out).mono ?_
      rintro e V3 ⟨rfl, hI, hB, hK⟩
      have P3 := Aside0.mk (O2.out.num hI hB hK)
      clear hI hB hK O2 H3
      have z := blk_cell (show V3.heap[go]? = _ from P3.out.o) 10
      simp at z
      have f := blk_frozen (show V3.heap[go]? = _ from P3.out.o) 10
      go_wp2_with fail
      go_meet
      case rel => exact ⟨_, _, _, _, _, none, 0, rfl, HF, ⟨P3.out.set10 n3⟩⟩
    · rw [if_neg (by decide), if_neg (by decide), if_pos rfl] at hq
      obtain ⟨⟨n1, s1, p1, b1⟩, h1, hq⟩ := Option.bind_eq_some_iff.mp hq
      have H1 := Aside0.mk h1
      clear h1
      dsimp only at hq
      have HF := Aside0.mk hq
      clear hq
      go_wp2_with fail
      refine (bourneref1_Reader_Num.calls K _ s0 p0 b0 n1 s1 p1 b1 w _ O0.out.g.rd O0.out.g.below H1.out).mono ?_
      rintro e V1 ⟨rfl, hI, hB, hK⟩
      have P1 := Aside0.mk (O0.out.num hI hB hK)
      clear hI hB hK O0 H1
      have z := blk_cell (show V1.heap[go]? = _ from P1.out.o) 11
      simp at z
      have f := blk_frozen (show V1.heap[go]? = _ from P1.out.o) 11
      go_wp2_with fail
      go_meet
      case rel => exact ⟨_, _, _, _, _, none, 0, rfl, HF, ⟨P1.out.set11 n1⟩⟩
    · rw [if_neg c0, if_neg (by omega), if_neg c5] at hq
      have e0 : (n0 == 0) = false := beq_eq_false_iff_ne.2 c0
      have e1 : (n0 == 1) = false := beq_eq_false_iff_ne.2 c1
      have e2 : (n0 == 2) = false := beq_eq_false_iff_ne.2 c2
      have e3 : (n0 == 3) = false := beq_eq_false_iff_ne.2 c3
      have e5 : (n0 == 5) = false := beq_eq_false_iff_ne.2 c5
      have HF := Aside0.mk hq
      clear hq c0 c1 c2 c3 c5
      go_wp2_with fail
      go_meet
      case rel => exact ⟨_, _, _, _, _, none, 0, rfl, HF, O0⟩
  case rest =>
    obtain ⟨r, ov, p, b, S, A, c, rfl, HF, O1⟩ := hcut
    clear O0 HQ
    have h := HF.out
    clear HF
    unfold gfin at h
    have B9 := Aside0.mk O1.out.g.below
    have rb : wc.cell? ⟨w.heap.size + 1, 2, none⟩ = some (.bool b) := blk_cell O1.out.g.rd.1 2
    have ra : wc.cell? ⟨w.heap.size + 1, 1, none⟩ = some (.int .i64 p) := blk_cell O1.out.g.rd.1 1
    cases b with
    | true =>
      rw [if_pos rfl] at h
      obtain ⟨rfl, rfl⟩ : RV.z = r_ ∧ 1000 = e_ := by simpa only [Option.some.injEq, Prod.mk.injEq] using h
      clear h
      have x0 := blk_cell O1.out.g.res 0
      simp at x0
      have x1 := blk_cell O1.out.g.res 1
      simp at x1
      have x2 := blk_cell O1.out.g.res 2
      simp at x2
      have x3 := blk_cell O1.out.g.res 3
      simp at x3
      have x4 := blk_cell O1.out.g.res 4
      simp at x4
      have x5 := blk_cell O1.out.g.res 5
      simp at x5
      have x6 := blk_cell O1.out.g.res 6
      simp at x6
      have x7 := blk_cell O1.out.g.res 7
      simp at x7
      have x8 := blk_cell O1.out.g.res 8
      simp at x8
      have x9 := blk_cell O1.out.g.res 9
      simp at x9
      have x10 := blk_cell O1.out.g.res 10
      simp at x10
      have x11 := blk_cell O1.out.g.res 11
      simp at x11
      have f0 := blk_frozen O1.out.g.res 0
      have f1 := blk_frozen O1.out.g.res 1
      have f2 := blk_frozen O1.out.g.res 2
      have f3 := blk_frozen O1.out.g.res 3
      have f4 := blk_frozen O1.out.g.res 4
      have f5 := blk_frozen O1.out.g.res 5
      have f6 := blk_frozen O1.out.g.res 6
      have f7 := blk_frozen O1.out.g.res 7
      have f8 := blk_frozen O1.out.g.res 8
      have f9 := blk_frozen O1.out.g.res 9
      have f10 := blk_frozen O1.out.g.res 10
      have f11 := blk_frozen O1.out.g.res 11
      go_wp2_with fail
      have E1 := Gr.res12 O1.out.g.res 0 0 0 0 0 0 false none 0 0 0 0 0 0
      have E2 := Gr.resR (base := w.heap.size) O1.out.g.res (Kd.R_nil _ _ _ _ _) 0 0 0 0 0 0 false none 0 0 0 0 0 0
      have E3 := Gr.below12 B9.out 0 0 0 0 0 0 false none 0 0 0 0 0 0
      (try simp only [Exit.inBlock, Exit.then])
      generalize ((((((((((((wc.setCell ⟨w.heap.size, 0, none⟩ (.int .i64 0)).setCell ⟨w.heap.size, 1, none⟩ (.int .i64 0)).setCell ⟨w.heap.size, 2, none⟩ (.int .i64 0)).setCell ⟨w.heap.size, 3, none⟩ (.int .i64 0)).setCell ⟨w.heap.size, 4, none⟩ (.int .i64 0)).setCell ⟨w.heap.size, 5, none⟩ (.int .i64 0)).setCell ⟨w.heap.size, 6, none⟩ (.bool false)).setCell ⟨w.heap.size, 7, none⟩ (.slice none 0 0)).setCell ⟨w.heap.size, 8, none⟩ (.int .i64 0)).setCell ⟨w.heap.size, 9, none⟩ (.int .i64 0)).setCell ⟨w.heap.size, 10, none⟩ (.int .i64 0)).setCell ⟨w.heap.size, 11, none⟩ (.int .i64 0)) = W9 at E1 E2 E3 ⊢
      clear O1 B9
      refine bodyPost_ret (results_ct rfl _ _ w.heap.size 30 #[.int .i64 0, .int .i64 0, .int .i64 0, .int .i64 0, .int .i64 0, .int .i64 0, .bool false, .slice none 0 0, .int .i64 0, .int .i64 0, .int .i64 0, .int .i64 0] (0, 0) _ rfl E1 Try.underlying30 rfl (by kernel_rfl)) rfl ?_
      exact ⟨none, 0, rfl, E2, E3⟩
    | false =>
      rw [if_neg (by decide)] at h
      cases hz : (p == (a0.size : Int)) with
      | false =>
        rw [hz, if_neg (by decide)] at h
        obtain ⟨rfl, rfl⟩ : RV.z = r_ ∧ 1000 = e_ := by simpa only [Option.some.injEq, Prod.mk.injEq] using h
        clear h
        have hz2 : (p != (a0.size : Int)) = true := by rw [bne, hz]; rfl
        have x0 := blk_cell O1.out.g.res 0
        simp at x0
        have x1 := blk_cell O1.out.g.res 1
        simp at x1
        have x2 := blk_cell O1.out.g.res 2
        simp at x2
        have x3 := blk_cell O1.out.g.res 3
        simp at x3
        have x4 := blk_cell O1.out.g.res 4
        simp at x4
        have x5 := blk_cell O1.out.g.res 5
        simp at x5
        have x6 := blk_cell O1.out.g.res 6
        simp at x6
        have x7 := blk_cell O1.out.g.res 7
        simp at x7
        have x8 := blk_cell O1.out.g.res 8
        simp at x8
        have x9 := blk_cell O1.out.g.res 9
        simp at x9
        have x10 := blk_cell O1.out.g.res 10
        simp at x10
        have x11 := blk_cell O1.out.g.res 11
        simp at x11
        have f0 := blk_frozen O1.out.g.res 0
        have f1 := blk_frozen O1.out.g.res 1
        have f2 := blk_frozen O1.out.g.res 2
        have f3 := blk_frozen O1.out.g.res 3
        have f4 := blk_frozen O1.out.g.res 4
        have f5 := blk_frozen O1.out.g.res 5
        have f6 := blk_frozen O1.out.g.res 6
        have f7 := blk_frozen O1.out.g.res 7
        have f8 := blk_frozen O1.out.g.res 8
        have f9 := blk_frozen O1.out.g.res 9
        have f10 := blk_frozen O1.out.g.res 10
        have f11 := blk_frozen O1.out.g.res 11
        go_wp2_with fail
        have E1 := Gr.res12 O1.out.g.res 0 0 0 0 0 0 false none 0 0 0 0 0 0
        have E2 := Gr.resR (base := w.heap.size) O1.out.g.res (Kd.R_nil _ _ _ _ _) 0 0 0 0 0 0 false none 0 0 0 0 0 0
        have E3 := Gr.below12 B9.out 0 0 0 0 0 0 false none 0 0 0 0 0 0
        (try simp only [Exit.inBlock, Exit.then])
        generalize ((((((((((((wc.setCell ⟨w.heap.size, 0, none⟩ (.int .i64 0)).setCell ⟨w.heap.size, 1, none⟩ (.int .i64 0)).setCell ⟨w.heap.size, 2, none⟩ (.int .i64 0)).setCell ⟨w.heap.size, 3, none⟩ (.int .i64 0)).setCell ⟨w.heap.size, 4, none⟩ (.int .i64 0)).setCell ⟨w.heap.size, 5, none⟩ (.int .i64 0)).setCell ⟨w.heap.size, 6, none⟩ (.bool false)).setCell ⟨w.heap.size, 7, none⟩ (.slice none 0 0)).setCell ⟨w.heap.size, 8, none⟩ (.int .i64 0)).setCell ⟨w.heap.size, 9, none⟩ (.int .i64 0)).setCell ⟨w.heap.size, 10, none⟩ (.int .i64 0)).setCell ⟨w.heap.size, 11, none⟩ (.int .i64 0)) = W9 at E1 E2 E3 ⊢
        clear O1 B9
        refine bodyPost_ret (results_ct rfl _ _ w.heap.size 30 #[.int .i64 0, .int .i64 0, .int .i64 0, .int .i64 0, .int .i64 0, .int .i64 0, .bool false, .slice none 0 0, .int .i64 0, .int .i64 0, .int .i64 0, .int .i64 0] (0, 0) _ rfl E1 Try.underlying30 rfl (by kernel_rfl)) rfl ?_
        exact ⟨none, 0, rfl, E2, E3⟩
      | true =>
        rw [hz, if_pos rfl] at h
        have hz2 : (p != (a0.size : Int)) = false := by rw [bne, hz]; rfl
        by_cases v0 : ov < 0
        · rw [if_pos v0] at h
          obtain ⟨rfl, rfl⟩ : RV.z = r_ ∧ 1000 = e_ := by simpa only [Option.some.injEq, Prod.mk.injEq] using h
          have v0b : decide (ov < 0) = true := decide_eq_true v0
          clear h v0
          have x0 := blk_cell O1.out.g.res 0
          simp at x0
          have x1 := blk_cell O1.out.g.res 1
          simp at x1
          have x2 := blk_cell O1.out.g.res 2
          simp at x2
          have x3 := blk_cell O1.out.g.res 3
          simp at x3
          have x4 := blk_cell O1.out.g.res 4
          simp at x4
          have x5 := blk_cell O1.out.g.res 5
          simp at x5
          have x6 := blk_cell O1.out.g.res 6
          simp at x6
          have x7 := blk_cell O1.out.g.res 7
          simp at x7
          have x8 := blk_cell O1.out.g.res 8
          simp at x8
          have x9 := blk_cell O1.out.g.res 9
          simp at x9
          have x10 := blk_cell O1.out.g.res 10
          simp at x10
          have x11 := blk_cell O1.out.g.res 11
          simp at x11
          have f0 := blk_frozen O1.out.g.res 0
          have f1 := blk_frozen O1.out.g.res 1
          have f2 := blk_frozen O1.out.g.res 2
          have f3 := blk_frozen O1.out.g.res 3
          have f4 := blk_frozen O1.out.g.res 4
          have f5 := blk_frozen O1.out.g.res 5
          have f6 := blk_frozen O1.out.g.res 6
          have f7 := blk_frozen O1.out.g.res 7
          have f8 := blk_frozen O1.out.g.res 8
          have f9 := blk_frozen O1.out.g.res 9
          have f10 := blk_frozen O1.out.g.res 10
          have f11 := blk_frozen O1.out.g.res 11
          go_wp2_with fail
          have E1 := Gr.res12 O1.out.g.res 0 0 0 0 0 0 false none 0 0 0 0 0 0
          have E2 := Gr.resR (base := w.heap.size) O1.out.g.res (Kd.R_nil _ _ _ _ _) 0 0 0 0 0 0 false none 0 0 0 0 0 0
          have E3 := Gr.below12 B9.out 0 0 0 0 0 0 false none 0 0 0 0 0 0
          (try simp only [Exit.inBlock, Exit.then])
          generalize ((((((((((((wc.setCell ⟨w.heap.size, 0, none⟩ (.int .i64 0)).setCell ⟨w.heap.size, 1, none⟩ (.int .i64 0)).setCell ⟨w.heap.size, 2, none⟩ (.int .i64 0)).setCell ⟨w.heap.size, 3, none⟩ (.int .i64 0)).setCell ⟨w.heap.size, 4, none⟩ (.int .i64 0)).setCell ⟨w.heap.size, 5, none⟩ (.int .i64 0)).setCell ⟨w.heap.size, 6, none⟩ (.bool false)).setCell ⟨w.heap.size, 7, none⟩ (.slice none 0 0)).setCell ⟨w.heap.size, 8, none⟩ (.int .i64 0)).setCell ⟨w.heap.size, 9, none⟩ (.int .i64 0)).setCell ⟨w.heap.size, 10, none⟩ (.int .i64 0)).setCell ⟨w.heap.size, 11, none⟩ (.int .i64 0)) = W9 at E1 E2 E3 ⊢
          clear O1 B9
          refine bodyPost_ret (results_ct rfl _ _ w.heap.size 30 #[.int .i64 0, .int .i64 0, .int .i64 0, .int .i64 0, .int .i64 0, .int .i64 0, .bool false, .slice none 0 0, .int .i64 0, .int .i64 0, .int .i64 0, .int .i64 0] (0, 0) _ rfl E1 Try.underlying30 rfl (by kernel_rfl)) rfl ?_
          exact ⟨none, 0, rfl, E2, E3⟩
        · rw [if_neg v0] at h
          have v0b : decide (ov < 0) = false := decide_eq_false v0
          by_cases v1 : ov > 1
          · rw [if_pos v1] at h
            obtain ⟨rfl, rfl⟩ : RV.z = r_ ∧ 1000 = e_ := by simpa only [Option.some.injEq, Prod.mk.injEq] using h
            have v1b : decide (1 < ov) = true := decide_eq_true v1
            clear h v0 v1
            have x0 := blk_cell O1.out.g.res 0
            simp at x0
            have x1 := blk_cell O1.out.g.res 1
            simp at x1
            have x2 := blk_cell O1.out.g.res 2
            simp at x2
            have x3 := blk_cell O1.out.g.res 3
            simp at x3
            have x4 := blk_cell O1.out.g.res 4
            simp at x4
            have x5 := blk_cell O1.out.g.res 5
            simp at x5
            have x6 := blk_cell O1.out.g.res 6
            simp at x6
            have x7 := blk_cell O1.out.g.res 7
            simp at x7
            have x8 := blk_cell O1.out.g.res 8
            simp at x8
            have x9 := blk_cell O1.out.g.res 9
            simp at x9
            have x10 := blk_cell O1.out.g.res 10
            simp at x10
            have x11 := blk_cell O1.out.g.res 11
            simp at x11
            have f0 := blk_frozen O1.out.g.res 0
            have f1 := blk_frozen O1.out.g.res 1
            have f2 := blk_frozen O1.out.g.res 2
            have f3 := blk_frozen O1.out.g.res 3
            have f4 := blk_frozen O1.out.g.res 4
            have f5 := blk_frozen O1.out.g.res 5
            have f6 := blk_frozen O1.out.g.res 6
            have f7 := blk_frozen O1.out.g.res 7
            have f8 := blk_frozen O1.out.g.res 8
            have f9 := blk_frozen O1.out.g.res 9
            have f10 := blk_frozen O1.out.g.res 10
            have f11 := blk_frozen O1.out.g.res 11
            go_wp2_with fail
            have E1 := Gr.res12 O1.out.g.res 0 0 0 0 0 0 false none 0 0 0 0 0 0
            have E2 := Gr.resR (base := w.heap.size) O1.out.g.res (Kd.R_nil _ _ _ _ _) 0 0 0 0 0 0 false none 0 0 0 0 0 0
            have E3 := Gr.below12 B9.out 0 0 0 0 0 0 false none 0 0 0 0 0 0
            (try simp only [Exit.inBlock, Exit.then])
            generalize ((((((((((((wc.setCell ⟨w.heap.size, 0, none⟩ (.int .i64 0)).setCell ⟨w.heap.size, 1, none⟩ (.int .i64 0)).setCell ⟨w.heap.size, 2, none⟩ (.int .i64 0)).setCell ⟨w.heap.size, 3, none⟩ (.int .i64 0)).setCell ⟨w.heap.size, 4, none⟩ (.int .i64 0)).setCell ⟨w.heap.size, 5, none⟩ (.int .i64 0)).setCell ⟨w.heap.size, 6, none⟩ (.bool false)).setCell ⟨w.heap.size, 7, none⟩ (.slice none 0 0)).setCell ⟨w.heap.size, 8, none⟩ (.int .i64 0)).setCell ⟨w.heap.size, 9, none⟩ (.int .i64 0)).setCell ⟨w.heap.size, 10, none⟩ (.int .i64 0)).setCell ⟨w.heap.size, 11, none⟩ (.int .i64 0)) = W9 at E1 E2 E3 ⊢
            clear O1 B9
            refine bodyPost_ret (results_ct rfl _ _ w.heap.size 30 #[.int .i64 0, .int .i64 0, .int .i64 0, .int .i64 0, .int .i64 0, .int .i64 0, .bool false, .slice none 0 0, .int .i64 0, .int .i64 0, .int .i64 0, .int .i64 0] (0, 0) _ rfl E1 Try.underlying30 rfl (by kernel_rfl)) rfl ?_
            exact ⟨none, 0, rfl, E2, E3⟩
          · rw [if_neg v1] at h
            have v1b : decide (1 < ov) = false := decide_eq_false v1
            obtain ⟨m, hm, h⟩ := Option.bind_eq_some_iff.mp h
            have HM := Aside0.mk hm
            have HZ := Aside0.mk h
            clear h hm v0 v1
            have y0 := blk_cell (show wc.heap[go]? = _ from O1.out.o) 0
            simp at y0
            have y1 := blk_cell (show wc.heap[go]? = _ from O1.out.o) 1
            simp at y1
            have y2 := blk_cell (show wc.heap[go]? = _ from O1.out.o) 2
            simp at y2
            have y3 := blk_cell (show wc.heap[go]? = _ from O1.out.o) 3
            simp at y3
            have y4 := blk_cell (show wc.heap[go]? = _ from O1.out.o) 4
            simp at y4
            have y5 := blk_cell (show wc.heap[go]? = _ from O1.out.o) 5
            simp at y5
            have y6 := blk_cell (show wc.heap[go]? = _ from O1.out.o) 6
            simp at y6
            have y7 := blk_cell (show wc.heap[go]? = _ from O1.out.o) 7
            simp at y7
            have y8 := blk_cell (show wc.heap[go]? = _ from O1.out.o) 8
            simp at y8
            have y9 := blk_cell (show wc.heap[go]? = _ from O1.out.o) 9
            simp at y9
            have y10 := blk_cell (show wc.heap[go]? = _ from O1.out.o) 10
            simp at y10
            have y11 := blk_cell (show wc.heap[go]? = _ from O1.out.o) 11
            simp at y11
            obtain ⟨A2, c2, ev, hcc, hC⟩ := Kd.R_reads O1.out.rr
            obtain ⟨rfl, rfl⟩ : A = A2 ∧ c = c2 := by simpa using ev
            clear ev
            have HC := Aside0.mk hC
            have HCC := Aside0.mk hcc
            clear hC hcc
            go_wp2_with fail
            refine (bourneref1_RecMay.calls K r.k r.q r.s r.st r.en r.v r.ov A c r.l r.se r.ti r.sq r.by_ m _ HC.out HCC.out HM.out).mono ?_
            rintro e V9 ⟨rfl, hb⟩
            have O9 := Aside0.mk (O1.out.step hb)
            clear y0 y1 y2 y3 y4 y5 y6 y7 y8 y9 y10 y11
            clear hb O1 HC HCC HM B9 ra rb hz hz2 v0b v1b
            have B9 := Aside0.mk O9.out.g.below
            have h := HZ.out
            clear HZ
            have y0 := blk_cell (show V9.heap[go]? = _ from O9.out.o) 0
            simp at y0
            have y1 := blk_cell (show V9.heap[go]? = _ from O9.out.o) 1
            simp at y1
            have y2 := blk_cell (show V9.heap[go]? = _ from O9.out.o) 2
            simp at y2
            have y3 := blk_cell (show V9.heap[go]? = _ from O9.out.o) 3
            simp at y3
            have y4 := blk_cell (show V9.heap[go]? = _ from O9.out.o) 4
            simp at y4
            have y5 := blk_cell (show V9.heap[go]? = _ from O9.out.o) 5
            simp at y5
            have y6 := blk_cell (show V9.heap[go]? = _ from O9.out.o) 6
            simp at y6
            have y7 := blk_cell (show V9.heap[go]? = _ from O9.out.o) 7
            simp at y7
            have y8 := blk_cell (show V9.heap[go]? = _ from O9.out.o) 8
            simp at y8
            have y9 := blk_cell (show V9.heap[go]? = _ from O9.out.o) 9
            simp at y9
            have y10 := blk_cell (show V9.heap[go]? = _ from O9.out.o) 10
            simp at y10
            have y11 := blk_cell (show V9.heap[go]? = _ from O9.out.o) 11
            simp at y11
            have x0 := blk_cell O9.out.g.res 0
            simp at x0
            have x1 := blk_cell O9.out.g.res 1
            simp at x1
            have x2 := blk_cell O9.out.g.res 2
            simp at x2
            have x3 := blk_cell O9.out.g.res 3
            simp at x3
            have x4 := blk_cell O9.out.g.res 4
            simp at x4
            have x5 := blk_cell O9.out.g.res 5
            simp at x5
            have x6 := blk_cell O9.out.g.res 6
            simp at x6
            have x7 := blk_cell O9.out.g.res 7
            simp at x7
            have x8 := blk_cell O9.out.g.res 8
            simp at x8
            have x9 := blk_cell O9.out.g.res 9
            simp at x9
            have x10 := blk_cell O9.out.g.res 10
            simp at x10
            have x11 := blk_cell O9.out.g.res 11
            simp at x11
            have f0 := blk_frozen O9.out.g.res 0
            have f1 := blk_frozen O9.out.g.res 1
            have f2 := blk_frozen O9.out.g.res 2
            have f3 := blk_frozen O9.out.g.res 3
            have f4 := blk_frozen O9.out.g.res 4
            have f5 := blk_frozen O9.out.g.res 5
            have f6 := blk_frozen O9.out.g.res 6
            have f7 := blk_frozen O9.out.g.res 7
            have f8 := blk_frozen O9.out.g.res 8
            have f9 := blk_frozen O9.out.g.res 9
            have f10 := blk_frozen O9.out.g.res 10
            have f11 := blk_frozen O9.out.g.res 11
            cases m with
            | false =>
              rw [if_neg (by decide)] at h
              obtain ⟨rfl, rfl⟩ : RV.z = r_ ∧ 1000 = e_ := by simpa only [Option.some.injEq, Prod.mk.injEq] using h
              clear h
              go_wp2_with fail
              have E1 := Gr.res12 O9.out.g.res 0 0 0 0 0 0 false none 0 0 0 0 0 0
              have E2 := Gr.resR (base := w.heap.size) O9.out.g.res (Kd.R_nil _ _ _ _ _) 0 0 0 0 0 0 false none 0 0 0 0 0 0
              have E3 := Gr.below12 B9.out 0 0 0 0 0 0 false none 0 0 0 0 0 0
              (try simp only [Exit.inBlock, Exit.then])
              generalize ((((((((((((V9.setCell ⟨w.heap.size, 0, none⟩ (.int .i64 0)).setCell ⟨w.heap.size, 1, none⟩ (.int .i64 0)).setCell ⟨w.heap.size, 2, none⟩ (.int .i64 0)).setCell ⟨w.heap.size, 3, none⟩ (.int .i64 0)).setCell ⟨w.heap.size, 4, none⟩ (.int .i64 0)).setCell ⟨w.heap.size, 5, none⟩ (.int .i64 0)).setCell ⟨w.heap.size, 6, none⟩ (.bool false)).setCell ⟨w.heap.size, 7, none⟩ (.slice none 0 0)).setCell ⟨w.heap.size, 8, none⟩ (.int .i64 0)).setCell ⟨w.heap.size, 9, none⟩ (.int .i64 0)).setCell ⟨w.heap.size, 10, none⟩ (.int .i64 0)).setCell ⟨w.heap.size, 11, none⟩ (.int .i64 0)) = W9 at E1 E2 E3 ⊢
              clear O9 B9
              refine bodyPost_ret (results_ct rfl _ _ w.heap.size 30 #[.int .i64 0, .int .i64 0, .int .i64 0, .int .i64 0, .int .i64 0, .int .i64 0, .bool false, .slice none 0 0, .int .i64 0, .int .i64 0, .int .i64 0, .int .i64 0] (0, 0) _ rfl E1 Try.underlying30 rfl (by kernel_rfl)) rfl ?_
              exact ⟨none, 0, rfl, E2, E3⟩
            | true =>
              rw [if_pos rfl] at h
              obtain ⟨rfl, rfl⟩ : r = r_ ∧ 0 = e_ := by simpa only [Option.some.injEq, Prod.mk.injEq] using h
              clear h
              go_wp2_with fail
              have E1 := Gr.res12 O9.out.g.res r.k r.q r.s r.st r.en r.v r.ov A r.l.length c r.se r.ti r.sq r.by_
              have E2 := Gr.resR (base := w.heap.size) O9.out.g.res (O9.out.rr) r.k r.q r.s r.st r.en r.v r.ov A r.l.length c r.se r.ti r.sq r.by_
              have E3 := Gr.below12 B9.out r.k r.q r.s r.st r.en r.v r.ov A r.l.length c r.se r.ti r.sq r.by_
              (try simp only [Exit.inBlock, Exit.then])
              generalize ((((((((((((V9.setCell ⟨w.heap.size, 0, none⟩ (.int .i64 r.k)).setCell ⟨w.heap.size, 1, none⟩ (.int .i64 r.q)).setCell ⟨w.heap.size, 2, none⟩ (.int .i64 r.s)).setCell ⟨w.heap.size, 3, none⟩ (.int .i64 r.st)).setCell ⟨w.heap.size, 4, none⟩ (.int .i64 r.en)).setCell ⟨w.heap.size, 5, none⟩ (.int .i64 r.v)).setCell ⟨w.heap.size, 6, none⟩ (.bool r.ov)).setCell ⟨w.heap.size, 7, none⟩ (.slice A r.l.length c)).setCell ⟨w.heap.size, 8, none⟩ (.int .i64 r.se)).setCell ⟨w.heap.size, 9, none⟩ (.int .i64 r.ti)).setCell ⟨w.heap.size, 10, none⟩ (.int .i64 r.sq)).setCell ⟨w.heap.size, 11, none⟩ (.int .i64 r.by_)) = W9 at E1 E2 E3 ⊢
              clear O9 B9
              refine bodyPost_ret (results_ct rfl _ _ w.heap.size 30 #[.int .i64 r.k, .int .i64 r.q, .int .i64 r.s, .int .i64 r.st, .int .i64 r.en, .int .i64 r.v, .bool r.ov, .slice A r.l.length c, .int .i64 r.se, .int .i64 r.ti, .int .i64 r.sq, .int .i64 r.by_] (0, 0) _ rfl E1 Try.underlying30 rfl (by kernel_rfl)) rfl ?_
              exact ⟨A, c, rfl, E2, E3⟩

end Go.Proofs.Ytikfpihapdabfaa.GetRecW
