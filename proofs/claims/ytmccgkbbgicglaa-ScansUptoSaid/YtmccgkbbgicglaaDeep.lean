/- Readings of parameters as kinds. -/
import Derived.Test.YtmccgkbbgicglaaWMore
import Derived.SizedLaws
import Derived.ChangeArms
import Derived.Deep.Slices
import Derived.DataReads
import Derived.DataElems
namespace Go.Proofs.Ytmccgkbbgicglaa.Deep
open Go.RowKit  Go.Proofs.YtmccgkbbgicglaaW.PrintWords Go.Proofs.YtmccgkbbgicglaaW.PrintLast Go.Proofs.YtmccgkbbgicglaaW.PrintMore
set_option linter.unusedVariables false
set_option linter.unusedSimpArgs false

/-! ### deep -/
/-- A reading of a type's cells as data tells a value of the kind d, of which G is known. -/
def Opens {H : Type} (enc : TypeId × Value → H) (P : Program) (w : World) (t : TypeId) {α : Type} (d : Kd α) (G : α → Prop) : Prop :=
  ∀ (fuel : Nat) (cs : List Value) (x : DataW H × List MemPlace), DataW.trod enc P w 0 (fun _ => true) true fuel t cs = some x → (∀ n ∈ x.1.weights P t, n ≤ reachBytes) → ∃ a, d.K w a cs ∧ G a
section
variable {H : Type} {enc : TypeId × Value → H} {P : Program} {w : World}
theorem opens_int {t : TypeId} {k : IntKind} (ht : P.underlying t = some (.int k)) : Opens enc P w t (Kd.int k) (fun n => (Lit.int k n).wf = true) := by
  intro fuel cs x h _
  obtain ⟨n, rfl, _, hw⟩ := DataW.trod_int ht h
  exact ⟨n, rfl, hw⟩
theorem opens_bool {t : TypeId} (ht : P.underlying t = some .bool) : Opens enc P w t Kd.bool (fun _ => True) := by
  intro fuel cs x h _
  obtain ⟨b, rfl, _⟩ := DataW.trod_bool ht h
  exact ⟨b, rfl, trivial⟩
theorem opens_string {t : TypeId} (ht : P.underlying t = some .string) : Opens enc P w t Kd.string (fun s => s.size ≤ 140737488351232) := by
  intro fuel cs x h hw
  obtain ⟨s, rfl, rfl, _⟩ := DataW.trod_string ht h
  refine ⟨s, rfl, ?_⟩
  have := hw s.data.toList.length (by simp [DataW.weights])
  rw [Array.length_toList] at this
  exact this
theorem weights_all {e : TypeId} {ds : List (DataW H)} {d : DataW H} (h : d ∈ ds) {n : Nat} (hn : n ∈ d.weights P e) : n ∈ DataW.weightsAll P e ds := by
  induction ds with
  | nil => cases h
  | cons a r ih =>
    rw [DataW.weightsAll, List.mem_append]
    rcases List.mem_cons.1 h with rfl | h
    · exact .inl hn
    · exact .inr (ih h)
theorem pick_list {α : Type} (R : Nat → α → Prop) (n : Nat) (h : ∀ i, i < n → ∃ a, R i a) : ∃ l : List α, l.length = n ∧ ∀ i (hi : i < l.length), R i l[i] := by
  induction n with
  | zero => exact ⟨[], rfl, fun i hi => absurd hi (Nat.not_lt_zero _)⟩
  | succ n ih =>
    obtain ⟨l, h1, h2⟩ := ih (fun i hi => h i (by omega))
    obtain ⟨a, ha⟩ := h n (by omega)
    refine ⟨l ++ [a], by simp [h1], fun i hi => ?_⟩
    by_cases hlt : i < l.length
    · rw [List.getElem_append_left hlt]; exact h2 i hlt
    · have e : i = l.length := by simp at hi; omega
      subst e
      rw [List.getElem_append_right (Nat.le_refl _)]
      simp only [Nat.sub_self, List.getElem_cons_zero]
      rw [h1]; exact ha
theorem opens_slice {t e : TypeId} {α : Type} {d : Kd α} {G : α → Prop} (e' : Nat) (B : Nat) (ht : P.underlying t = some (.slice e)) (hsz : P.cellsOf e = d.sz) (hB : P.bytesOf e = B) (hd : Opens enc P w e d G) :
    Opens enc P w t (Kd.slice e' d) (fun l => l.length * B ≤ 140737488351232 ∧ ∀ a ∈ l, G a) := by
  intro fuel cs x h hw
  rcases DataW.trod_slice ht h with ⟨rfl, _⟩ | ⟨ad, len, cap, elems, rest, n, _, rfl, rfl, hb, hl, hm, hlen, hel, _, _⟩
  · exact ⟨[], ⟨none, 0, rfl, Nat.le_refl _, rfl, by simp, fun hn => absurd hn (Nat.lt_irrefl _)⟩, by simp, fun a ha => by cases ha⟩
  · have each : ∀ i, i < len → ∃ cs' a, w.cells? 0 (ad.add (i * P.cellsOf e)) (P.cellsOf e) = some cs' ∧ d.K w a cs' ∧ G a := by
      intro i hi
      have hk := hel i hi
      rw [List.getElem?_eq_getElem (by omega)] at hk
      obtain ⟨cs', h1, h2⟩ := Option.bind_eq_some_iff.1 hk
      obtain ⟨a, ha, hg⟩ := hd n cs' _ h2 (fun m hm' => hw m (by
        simp only [DataW.weights, ht, List.mem_cons, List.mem_append]
        exact .inr (.inl (weights_all (List.mem_map_of_mem (List.getElem_mem (by omega))) hm'))))
      exact ⟨cs', a, h1, ha, hg⟩
    obtain ⟨l, h1, h2⟩ := pick_list (fun i a => ∃ cs', w.cells? 0 (ad.add (i * P.cellsOf e)) (P.cellsOf e) = some cs' ∧ d.K w a cs' ∧ G a) len (fun i hi => by obtain ⟨cs', a, p⟩ := each i hi; exact ⟨a, cs', p⟩)
    refine ⟨l, ⟨some ad, cap, by rw [h1], by omega, ?_⟩, ?_, ?_⟩
    · refine ⟨rfl, by rw [h1]; simp only [maxLen] at hm; omega, fun _ => ⟨ad, rfl, fun j p hj => ?_⟩⟩
      obtain ⟨hjl, rfl⟩ := List.getElem?_eq_some_iff.1 hj
      obtain ⟨cs', h3, h4, _⟩ := h2 j hjl
      obtain ⟨_, hl3, hc3⟩ := World.cells?_some h3
      refine ⟨cs', by rw [hl3, hsz], h4, fun i u hu => ?_⟩
      have hi : i < P.cellsOf e := by
        have := (List.getElem?_eq_some_iff.1 hu).1
        omega
      have hc4 := hc3 i hi
      rw [hu, hsz] at hc4
      rw [← hc4]
      have ea : ad.add (j * d.sz + i) = (ad.add (j * d.sz)).add i := (Addr.add_add _ _ _).symm
      rw [ea]
    · have h3 := hw ((elems.map (·.1)).length * P.bytesOf e + (rest.map (·.1)).length * P.bytesOf e) (by
        simp only [DataW.weights, ht, List.mem_cons]
        exact .inl (by rw [Nat.add_mul]))
      rw [List.length_map, hlen, hB] at h3
      rw [h1]
      exact Nat.le_trans (Nat.le_add_right _ _) h3
    · intro a ha
      obtain ⟨i, hi, rfl⟩ := List.getElem_of_mem ha
      obtain ⟨_, _, _, hg⟩ := h2 i hi
      exact hg
/-- A struct's fields from one on, whose cells begin at off. -/
def OpensF (enc : TypeId × Value → H) (P : Program) (w : World) (off : Nat) (fs : List Field) {α : Type} (d : Kd α) (G : α → Prop) : Prop :=
  ∀ (n : Nat) (cs : List Value) (xs : List (DataW H × List MemPlace)), xs.length = fs.length → cs.length = off + d.sz →
    (∀ (i : Nat) (f : Field), fs[i]? = some f → DataW.trod enc P w 0 (fun _ => true) true n f.type ((cs.drop f.offset).take (P.cellsOf f.type)) = xs[i]?) →
    (∀ n ∈ DataW.weightsEach P (fs.map (·.type)) (xs.map (·.1)), n ≤ reachBytes) → ∃ a, d.K w a (cs.drop off) ∧ G a
theorem opensF_last {off : Nat} {f : Field} {α : Type} {d : Kd α} {G : α → Prop} (ho : f.offset = off) (hsz : P.cellsOf f.type = d.sz) (h : Opens enc P w f.type d G) : OpensF enc P w off [f] d G := by
  intro n cs xs hl hc hf hw
  match xs, hl with
  | [x], _ =>
    have h1 := hf 0 f rfl
    rw [ho, List.take_of_length_le (by rw [List.length_drop, hsz]; omega)] at h1
    exact h n _ x h1 (fun m hm => hw m (by simp only [List.map_cons, List.map_nil, DataW.weightsEach, List.append_nil]; exact hm))
theorem opensF_cons {off : Nat} {f : Field} {fs : List Field} {α β : Type} {d : Kd α} {G : α → Prop} {d2 : Kd β} {G2 : β → Prop} (ho : f.offset = off) (hsz : P.cellsOf f.type = d.sz) (h : Opens enc P w f.type d G) (h2 : OpensF enc P w (off + d.sz) fs d2 G2) :
    OpensF enc P w off (f :: fs) (Kd.pair d d2) (fun x => G x.1 ∧ G2 x.2) := by
  intro n cs xs hl hc hf hw
  match xs, hl with
  | x :: xs, hl =>
    have h1 := hf 0 f rfl
    have hsum : cs.length = off + (d.sz + d2.sz) := hc
    rw [ho, hsz] at h1
    obtain ⟨a, ha, hg⟩ := h n _ x h1 (fun m hm => hw m (by simp only [List.map_cons, DataW.weightsEach, List.mem_append]; exact .inl hm))
    obtain ⟨b, hb, hg2⟩ := h2 n cs xs (by simpa using hl) (by omega) (fun i g hi => by have := hf (i + 1) g (by simpa using hi); simpa using this)
      (fun m hm => hw m (by simp only [List.map_cons, DataW.weightsEach, List.mem_append]; exact .inr hm))
    refine ⟨(a, b), ⟨_, _, ?_, ha, hb⟩, hg, hg2⟩
    rw [← List.drop_drop, List.take_append_drop]
theorem opens_struct {t : TypeId} {fs : Array Field} {α : Type} {d : Kd α} {G : α → Prop} (ht : P.underlying t = some (.struct fs)) (hsz : P.cellsOf t = d.sz) (h : OpensF enc P w 0 fs.toList d G) : Opens enc P w t d G := by
  intro fuel cs x hx hw
  obtain ⟨xs, n, _, rfl, hl, hxl, hall⟩ := DataW.trod_struct ht hx
  have := h n cs xs (by simpa using hxl) (by omega) (fun i f hf => hall i f (by simpa using hf)) (fun m hm => hw m (by
    simp only [DataW.weights, ht]; exact hm))
  rw [List.drop_zero] at this
  exact this
/-- The same under another name for the value. -/
theorem opens_iso {t : TypeId} {α β : Type} {d : Kd α} {G : α → Prop} (f : β → α) (g : α → β) (hfg : ∀ a, f (g a) = a) (h : Opens enc P w t d G) : Opens enc P w t (Kd.iso d f) (fun b => G (f b)) := by
  intro fuel cs x hx hw
  obtain ⟨a, ha, hg⟩ := h fuel cs x hx hw
  exact ⟨g a, by show d.K w (f (g a)) cs; rw [hfg]; exact ha, by show G (f (g a)); rw [hfg]; exact hg⟩
/-- A parameter's reading. -/
theorem opens_arg {ts : List TypeId} {ds : List (DataW H)} {j : Nat} {t : TypeId} {v : Value} {D : DataW H} {ps : List MemPlace} {α : Type} {d : Kd α} {G : α → Prop} (h : Opens enc P w t d G)
    (hsz : (DataW.weightsEach P ts ds).all (· ≤ reachBytes) = true) (ht : ts[j]? = some t) (hd : ds[j]? = some D) (hv : DataW.Trod enc P w 0 (fun _ => true) true t v D ps) : ∃ a, d.K w a v.cells.toList ∧ G a := by
  obtain ⟨fuel, hf⟩ := hv
  exact h fuel _ _ hf (fun n hn => by
    have := List.all_eq_true.1 hsz n (DataW.weights_mem_each ht hd n hn)
    simpa using this)
end

-- OPEN

end Go.Proofs.Ytmccgkbbgicglaa.Deep
