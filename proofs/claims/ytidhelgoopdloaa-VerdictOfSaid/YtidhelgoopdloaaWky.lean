/- Arguments that came in, opened: from the form's reading ('trod') to cells. -/
import Derived.Test.YtidhelgoopdloaaWkz
namespace Go.Proofs.Ytidhelgoopdloaa
open Go Go.RowKit Go.ChangeShapes Go.WideShapes Go.ChangeAt

theorem len_succ {α : Type} {l : List α} {n : Nat} (h : l.length = n + 1) : ∃ a r, l = a :: r ∧ r.length = n := by
  cases l with
  | nil => cases h
  | cons a r => exact ⟨a, r, rfl, by simpa using h⟩

section
variable {H : Type} {enc : TypeId × Value → H} {P : Program} {w : World} {base : Nat} {spare : Nat → Bool} {held : Bool} {t : TypeId} {fuel : Nat} {cs : List Value} {x : DataW H × List MemPlace}

theorem cellsOf_run {T : TypeId} {s : Nat} (h : ∀ w, (sizeOf T).run P w = .ok s w) : P.cellsOf T = s := by
  have h' := h default
  unfold sizeOf typeInfo at h'
  rw [Sem.run_bind, Sem.run_bind, run_program] at h'
  simp only [Result.andThen_ok] at h'
  unfold Program.cellsOf
  cases hi : P.info? T with
  | none => rw [hi] at h'; simp at h'
  | some i => rw [hi] at h'; simpa using h'

/-- The reading of each field. -/
theorem fld_trod {fs : Array Field} {r : List (Nat × Nat)} (ht : P.underlying t = some (.struct fs)) (hf : FldsOk P fs.toList r) (h : DataW.trod enc P w base spare held fuel t cs = some x) :
    cs.length = P.cellsOf t ∧ ∀ (i o s : Nat) (f : Field), r[i]? = some (o, s) → fs[i]? = some f → ∃ n y, DataW.trod enc P w base spare held n f.type ((cs.drop o).take s) = some y := by
  obtain ⟨xs, n, _, _, hlen, hxs, hall⟩ := DataW.trod_struct ht h
  refine ⟨hlen, fun i o s f hi hfi => ?_⟩
  obtain ⟨f', h1, h2, h3⟩ := hf.get hi
  have hff : f' = f := by
    have : fs.toList[i]? = some f := by simpa using hfi
    rw [this] at h1; exact (Option.some.inj h1).symm
  subst hff
  have h4 := hall i f' hfi
  rw [cellsOf_run h3, h2] at h4
  have hlt : i < xs.length := by
    rw [hxs]
    rcases Nat.lt_or_ge i fs.size with h' | h'
    · exact h'
    · simp [Array.getElem?_eq_none h'] at hfi
  exact ⟨n, xs[i], by rw [h4, List.getElem?_eq_getElem hlt]⟩

theorem int_trod {k : IntKind} (ht : P.underlying t = some (.int k)) (h : DataW.trod enc P w base spare held fuel t cs = some x) : ∃ i, cs = [.int k i] ∧ (Lit.int k i).wf = true := by
  obtain ⟨i, h1, h2⟩ := DataW.trod_int ht h
  exact ⟨i, h1, h2.2⟩
theorem bool_trod (ht : P.underlying t = some .bool) (h : DataW.trod enc P w base spare held fuel t cs = some x) : ∃ b, cs = [.bool b] := by
  obtain ⟨b, h1, _⟩ := DataW.trod_bool ht h
  exact ⟨b, h1⟩
theorem str_trod (ht : P.underlying t = some .string) (h : DataW.trod enc P w base spare held fuel t cs = some x) : ∃ l : List UInt8, cs = [.string ⟨l.toArray⟩] ∧ l.length ≤ maxLen := by
  obtain ⟨s, h1, h2⟩ := DataW.trod_string ht h
  exact ⟨s.data.toList, by simpa using h1, by have := h2.2; simpa only [Array.length_toList, ByteArray.size] using this⟩
end
end Go.Proofs.Ytidhelgoopdloaa
