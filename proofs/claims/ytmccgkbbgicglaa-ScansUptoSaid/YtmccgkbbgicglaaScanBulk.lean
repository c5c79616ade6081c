/- A row of texts that is read is of no more bulk than its reading. No condition. -/
import Derived.Test.YtmccgkbbgicglaaRows
import Derived.Test.YtmccgkbbgicglaaDeep
namespace Go.Proofs.Ytmccgkbbgicglaa.ScanBulk
open Go.RowKit Go.Proofs.Ytmccgkbbgicglaa.Deep Go.Proofs.YtmccgkbbgicglaaW.PrintWords Go.Proofs.YtmccgkbbgicglaaW.PrintLast Go.Proofs.YtmccgkbbgicglaaW.PrintMore
set_option linter.unusedVariables false
set_option linter.unusedSimpArgs false


theorem bulk_mem {H : Type} {d : DataW H} : ∀ {ds : List (DataW H)}, d ∈ ds → Rows.uptoBulk d ≤ Rows.uptoBulkAll ds
  | [], h => by cases h
  | e :: r, h => by
    rw [Rows.uptoBulkAll]
    rcases List.mem_cons.1 h with rfl | h
    · exact Nat.le_add_right _ _
    · exact Nat.le_trans (bulk_mem h) (Nat.le_add_left _ _)
theorem bulk_one {H : Type} (d : DataW H) : 1 ≤ Rows.uptoBulk d := by
  cases d with
  | lit l => cases l <;> simp [Rows.uptoBulk]
  | nil => simp [Rows.uptoBulk]
  | ptr d => simp [Rows.uptoBulk]
  | slice elems spare => simp [Rows.uptoBulk]
  | agg p => simp [Rows.uptoBulk]
  | iface _ d => simp [Rows.uptoBulk]
  | map e => simp [Rows.uptoBulk]
  | held n => simp [Rows.uptoBulk]
theorem bulk_len {H : Type} (l : List (DataW H)) : l.length ≤ Rows.uptoBulkAll l := by
  induction l with
  | nil => simp [Rows.uptoBulkAll]
  | cons x r ih => have := bulk_one x; rw [Rows.uptoBulkAll, List.length_cons]; omega
theorem opensB_strings {H : Type} {enc : TypeId × Value → H} {P : Program} {w : World} {t e : TypeId} (e' : Nat) (ht : P.underlying t = some (.slice e)) (he : P.underlying e = some .string) (hsz : P.cellsOf e = Kd.string.sz) {v : Value} {d : DataW H} {ps : List MemPlace}
    (h : DataW.Trod enc P w 0 (fun _ => true) true t v d ps) :
    ∃ l : List ByteArray, (Kd.slice e' Kd.string).K w l v.cells.toList ∧ l.length ≤ Rows.uptoBulk d ∧ ∀ s ∈ l, s.size ≤ Rows.uptoBulk d := by
  obtain ⟨fuel, h⟩ := h
  generalize v.cells.toList = cs at h
  rcases DataW.trod_slice ht h with ⟨rfl, _⟩ | ⟨ad, len, cap, elems, rest, n, _, rfl, hx, hb, hl, hm, hlen, hel, _, _⟩
  · exact ⟨[], ⟨none, 0, rfl, Nat.le_refl _, rfl, by simp, fun hn => absurd hn (Nat.lt_irrefl _)⟩, Nat.zero_le _, fun a ha => by cases ha⟩
  · have hd : d = .slice (elems.map (·.1)) (rest.map (·.1)) := (Prod.mk.inj hx).1
    have each : ∀ i, i < len → ∃ (s : ByteArray) (cs' : List Value), w.cells? 0 (ad.add (i * P.cellsOf e)) (P.cellsOf e) = some cs' ∧ Kd.string.K w s cs' ∧ s.size ≤ Rows.uptoBulk d := by
      intro i hi
      have hk := hel i hi
      rw [List.getElem?_eq_getElem (by omega)] at hk
      obtain ⟨cs', h1, h2⟩ := Option.bind_eq_some_iff.1 hk
      obtain ⟨s, hs1, hs2, hs3⟩ := DataW.trod_string he h2
      refine ⟨s, cs', h1, hs1, ?_⟩
      have h3 := bulk_mem (List.mem_map_of_mem (f := (·.1)) (List.getElem_mem (l := elems) (n := i) (by omega)))
      have h4 : Rows.uptoBulk (elems[i]'(by omega)).1 = s.size + 1 := by
        rw [hs2]
        simp only [Rows.uptoBulk]
        rw [Array.length_toList]; rfl
      rw [hd]
      simp only [Rows.uptoBulk]
      omega
    obtain ⟨l, h1, h2⟩ := pick_list (fun i s => ∃ cs', w.cells? 0 (ad.add (i * P.cellsOf e)) (P.cellsOf e) = some cs' ∧ Kd.string.K w s cs' ∧ s.size ≤ Rows.uptoBulk d) len (fun i hi => by obtain ⟨s, cs', p⟩ := each i hi; exact ⟨s, cs', p⟩)
    refine ⟨l, ⟨some ad, cap, by rw [h1], by omega, ?_⟩, ?_, ?_⟩
    · refine ⟨rfl, by rw [h1]; simp only [maxLen] at hm; omega, fun _ => ⟨ad, rfl, fun j p hj => ?_⟩⟩
      obtain ⟨hjl, rfl⟩ := List.getElem?_eq_some_iff.1 hj
      obtain ⟨cs', h3, h4, _⟩ := h2 j hjl
      obtain ⟨_, hl3, hc3⟩ := World.cells?_some h3
      refine ⟨cs', by rw [hl3, hsz], h4, fun i u hu => ?_⟩
      have hi : i < P.cellsOf e := by
        have := (List.getElem?_eq_some_iff.1 hu).1
        omega
      have hc4 := hc3 i hi
      rw [hu, hsz] at hc4
      rw [← hc4]
      have ea : ad.add (j * Kd.string.sz + i) = (ad.add (j * Kd.string.sz)).add i := (Addr.add_add _ _ _).symm
      rw [ea]
    · have h5 := bulk_len (elems.map (·.1))
      rw [List.length_map, hlen] at h5
      rw [hd, h1]
      simp only [Rows.uptoBulk]
      omega
    · intro s hs
      obtain ⟨i, hi, rfl⟩ := List.getElem_of_mem hs
      obtain ⟨_, _, _, hg⟩ := h2 i hi
      exact hg

end Go.Proofs.Ytmccgkbbgicglaa.ScanBulk
