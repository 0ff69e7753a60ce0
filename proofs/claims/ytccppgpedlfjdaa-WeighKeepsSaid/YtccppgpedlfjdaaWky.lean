/- Arguments that came in, opened: from the form's reading ('trod') to cells. -/
import Derived.Test.YtccppgpedlfjdaaWkz
import Derived.Test.YtccppgpedlfjdaaWkf
import Derived.Deep.Slices
namespace Go.Proofs.Ytccppgpedlfjdaa
open Go Go.RowKit Go.ChangeShapes Go.WideShapes Go.ChangeAt

theorem len_succ {α : Type} {l : List α} {n : Nat} (h : l.length = n + 1) : ∃ a r, l = a :: r ∧ r.length = n := by
  cases l with
  | nil => cases h
  | cons a r => exact ⟨a, r, rfl, by simpa using h⟩

section
variable {H : Type} {enc : TypeId × Value → H} {P : Program} {w : World} {base : Nat} {spare : Nat → Bool} {held : Bool} {t : TypeId} {fuel : Nat} {cs : List Value} {x : DataW H × List MemPlace}

theorem cellsOf_run {T : TypeId} {s : Nat} (h : ∀ w, (sizeOf T).run P w = .ok s w) : P.cellsOf T = s := by
  have h' := h default
  unfold sizeOf typeInfo at h'
  rw [Sem.run_bind, Sem.run_bind, run_program] at h'
  simp only [Result.andThen_ok] at h'
  unfold Program.cellsOf
  cases hi : P.info? T with
  | none => rw [hi] at h'; simp at h'
  | some i => rw [hi] at h'; simpa using h'

/-- The reading of each field. -/
theorem fld_trod {fs : Array Field} {r : List (Nat × Nat)} (ht : P.underlying t = some (.struct fs)) (hf : FldsOk P fs.toList r) (h : DataW.trod enc P w base spare held fuel t cs = some x) :
    cs.length = P.cellsOf t ∧ ∀ (i o s : Nat) (f : Field), r[i]? = some (o, s) → fs[i]? = some f → ∃ n y, DataW.trod enc P w base spare held n f.type ((cs.drop o).take s) = some y := by
  obtain ⟨xs, n, _, _, hlen, hxs, hall⟩ := DataW.trod_struct ht h
  refine ⟨hlen, fun i o s f hi hfi => ?_⟩
  obtain ⟨f', h1, h2, h3⟩ := hf.get hi
  have hff : f' = f := by
    have : fs.toList[i]? = some f := by simpa using hfi
    rw [this] at h1; exact (Option.some.inj h1).symm
  subst hff
  have h4 := hall i f' hfi
  rw [cellsOf_run h3, h2] at h4
  have hlt : i < xs.length := by
    rw [hxs]
    rcases Nat.lt_or_ge i fs.size with h' | h'
    · exact h'
    · simp [Array.getElem?_eq_none h'] at hfi
  exact ⟨n, xs[i], by rw [h4, List.getElem?_eq_getElem hlt]⟩

theorem int_trod {k : IntKind} (ht : P.underlying t = some (.int k)) (h : DataW.trod enc P w base spare held fuel t cs = some x) : ∃ i, cs = [.int k i] ∧ (Lit.int k i).wf = true := by
  obtain ⟨i, h1, h2⟩ := DataW.trod_int ht h
  exact ⟨i, h1, h2.2⟩
theorem bool_trod (ht : P.underlying t = some .bool) (h : DataW.trod enc P w base spare held fuel t cs = some x) : ∃ b, cs = [.bool b] := by
  obtain ⟨b, h1, _⟩ := DataW.trod_bool ht h
  exact ⟨b, h1⟩
theorem str_trod (ht : P.underlying t = some .string) (h : DataW.trod enc P w base spare held fuel t cs = some x) : ∃ l : List UInt8, cs = [.string ⟨l.toArray⟩] ∧ l.length ≤ maxLen := by
  obtain ⟨s, h1, h2⟩ := DataW.trod_string ht h
  exact ⟨s.data.toList, by simpa using h1, by have := h2.2; simpa only [Array.length_toList, ByteArray.size] using this⟩

theorem Row.app {p : Addr} {as bs : List Value} (h1 : Row w p as) (h2 : Row w (p.add as.length) bs) : Row w p (as ++ bs) := fun j v hj => by
  by_cases hlt : j < as.length
  · exact h1 j v (by rwa [List.getElem?_append_left hlt] at hj)
  · have := h2 (j - as.length) v (by rwa [List.getElem?_append_right (by omega)] at hj)
    rw [Deep.add_add] at this
    rwa [show as.length + (j - as.length) = j by omega] at this
theorem Row.many {a : Addr} {k : Nat} (C : Nat → List Value) : ∀ n, (∀ i, i < n → (C i).length = k ∧ Row w (a.add (i * k)) (C i)) → Row w a ((List.range n).map C).flatten ∧ ((List.range n).map C).flatten.length = n * k
  | 0, _ => ⟨fun j v hj => by simp at hj, by simp⟩
  | n + 1, h => by
    obtain ⟨h1, h2⟩ := Row.many C n fun i hi => h i (by omega)
    obtain ⟨h3, h4⟩ := h n (by omega)
    rw [List.range_succ, List.map_append, List.flatten_append]
    simp only [List.map_cons, List.map_nil, List.flatten_cons, List.flatten_nil, List.append_nil]
    exact ⟨h1.app (by rw [h2]; exact h4), by rw [List.length_append, h2, h3, Nat.succ_mul]⟩
theorem Row.ofCells {a : Addr} {k : Nat} {cs : List Value} (h : w.cells? base a k = some cs) : Row w a cs := fun j v hj => by
  obtain ⟨_, h1, h2⟩ := World.cells?_some h
  rw [h2 j (by rw [← h1]; exact (List.getElem?_eq_some_iff.1 hj).1)]
  exact hj

/-- A slice, opened: its elements' cells, each with its reading. -/
theorem slice_open {t e : TypeId} {k : Nat} (ht : P.underlying t = some (.slice e)) (hk : P.cellsOf e = k) (h : DataW.trod enc P w base spare held fuel t cs = some x) :
    ∃ (v : Value) (L : List (List Value)), cs = [v] ∧ Sl w k v L.length L.flatten ∧ L.length ≤ maxLen ∧ ∀ l ∈ L, l.length = k ∧ ∃ n y, DataW.trod enc P w base spare held n e l = some y := by
  rcases Deep.open_slice ht h with ⟨rfl, _⟩ | ⟨a, len, cap, m, n, D, Pl, rfl, _, hl, hm, hmm, rfl, hx⟩
  · exact ⟨_, [], rfl, ⟨none, 0, rfl, by simp, fun _ h => (by cases h), fun _ => rfl⟩, Nat.zero_le _, fun _ h => (by cases h)⟩
  · rw [hk] at hx
    have hle : len ≤ m := by rw [hmm]; split <;> omega
    obtain ⟨C, hC⟩ := Deep.choose_lt (α := List Value) (p := fun i cs' => w.cells? base (a.add (i * k)) k = some cs' ∧ DataW.trod enc P w base spare held n e cs' = some (D i, Pl i)) hx
    obtain ⟨h1, h2⟩ := Row.many (w := w) (a := a) (k := k) C len fun i hi => ⟨(World.cells?_some (hC i (by omega)).1).2.1, Row.ofCells (hC i (by omega)).1⟩
    refine ⟨_, (List.range len).map C, rfl, ⟨some a, cap, by simp, by rw [h2]; simp, fun b hb => (by cases hb; exact h1), fun h => (by cases h)⟩, by simp; omega, fun l hl' => ?_⟩
    obtain ⟨i, hi, rfl⟩ := List.mem_map.1 hl'
    have hi' : i < len := List.mem_range.1 hi
    exact ⟨(World.cells?_some (hC i (by omega)).1).2.1, n, _, (hC i (by omega)).2⟩

/-- Elements of one cell each, of a form f. -/
theorem list_map1 {α : Type} (f : α → Value) (q : α → Prop) : ∀ (L : List (List Value)), (∀ l ∈ L, ∃ a, l = [f a] ∧ q a) → ∃ xs : List α, L.flatten = xs.map f ∧ xs.length = L.length ∧ ∀ a ∈ xs, q a
  | [], _ => ⟨[], rfl, rfl, fun _ h => by cases h⟩
  | l :: L, h => by
    obtain ⟨a, rfl, ha⟩ := h l (by simp)
    obtain ⟨xs, h1, h2, h3⟩ := list_map1 f q L fun l hl => h l (by simp [hl])
    exact ⟨a :: xs, by simp [h1], by simp [h2], fun b hb => by
      rcases List.mem_cons.1 hb with rfl | hb
      · exact ha
      · exact h3 b hb⟩

theorem ints_open {t e : TypeId} {k : IntKind} (ht : P.underlying t = some (.slice e)) (he : P.underlying e = some (.int k)) (hc : P.cellsOf e = 1) (h : DataW.trod enc P w base spare held fuel t cs = some x) :
    ∃ (v : Value) (xs : List Int), cs = [v] ∧ Sl w 1 v xs.length (xs.map (.int k)) ∧ xs.length ≤ maxLen ∧ ∀ i ∈ xs, (Lit.int k i).wf = true := by
  obtain ⟨v, L, rfl, h1, h2, h3⟩ := slice_open ht hc h
  obtain ⟨xs, h4, h5, h6⟩ := list_map1 (.int k) (fun i => (Lit.int k i).wf = true) L fun l hl => by
    obtain ⟨_, n, y, hy⟩ := h3 l hl
    exact int_trod he hy
  exact ⟨v, xs, rfl, by rw [h5, ← h4]; exact h1, by omega, h6⟩
theorem strs_open {t e : TypeId} (ht : P.underlying t = some (.slice e)) (he : P.underlying e = some .string) (hc : P.cellsOf e = 1) (h : DataW.trod enc P w base spare held fuel t cs = some x) :
    ∃ (v : Value) (xs : List (List UInt8)), cs = [v] ∧ Sl w 1 v xs.length (xs.map fun l => .string ⟨l.toArray⟩) ∧ xs.length ≤ maxLen ∧ ∀ l ∈ xs, l.length ≤ maxLen := by
  obtain ⟨v, L, rfl, h1, h2, h3⟩ := slice_open ht hc h
  obtain ⟨xs, h4, h5, h6⟩ := list_map1 (fun l : List UInt8 => Value.string ⟨l.toArray⟩) (fun l => l.length ≤ maxLen) L fun l hl => by
    obtain ⟨_, n, y, hy⟩ := h3 l hl
    exact str_trod he hy
  exact ⟨v, xs, rfl, by rw [h5, ← h4]; exact h1, by omega, h6⟩
end
end Go.Proofs.Ytccppgpedlfjdaa
