/- Arguments that came in, opened: from the form's reading ('trod') to cells. Arguments that came in, opened, with the bounds of their sizes. Walk rules, part six: append. Rules: bits of whole numbers; the block of a slice of one's own. -/
import Derived.Test.YtahpiaaffeiadaaGreatWkc
import Derived.Test.YtahpiaaffeiadaaGreatWkf
import Derived.Deep.Slices
import Derived.OpenShut
import Derived.SizedLaws
import Derived.Laws.AppendOwnNone
namespace Go.Proofs.YtahpiaaffeiadaaGreat
open Go Go.RowKit Go.ChangeShapes Go.WideShapes Go.ChangeAt

theorem len_succ {α : Type} {l : List α} {n : Nat} (h : l.length = n + 1) : ∃ a r, l = a :: r ∧ r.length = n := by
  cases l with
  | nil => cases h
  | cons a r => exact ⟨a, r, rfl, by simpa using h⟩

section
variable {H : Type} {enc : TypeId × Value → H} {P : Program} {w : World} {base : Nat} {spare : Nat → Bool} {held : Bool} {t : TypeId} {fuel : Nat} {cs : List Value} {x : DataW H × List MemPlace}

theorem cellsOf_run {T : TypeId} {s : Nat} (h : ∀ w, (sizeOf T).run P w = .ok s w) : P.cellsOf T = s := by
  have h' := h default
  unfold sizeOf typeInfo at h'
  rw [Sem.run_bind, Sem.run_bind, run_program] at h'
  simp only [Result.andThen_ok] at h'
  unfold Program.cellsOf
  cases hi : P.info? T with
  | none => rw [hi] at h'; simp at h'
  | some i => rw [hi] at h'; simpa using h'

/-- The reading of each field. -/
theorem fld_trod {fs : Array Field} {r : List (Nat × Nat)} (ht : P.underlying t = some (.struct fs)) (hf : FldsOk P fs.toList r) (h : DataW.trod enc P w base spare held fuel t cs = some x) :
    cs.length = P.cellsOf t ∧ ∀ (i o s : Nat) (f : Field), r[i]? = some (o, s) → fs[i]? = some f → ∃ n y, DataW.trod enc P w base spare held n f.type ((cs.drop o).take s) = some y := by
  obtain ⟨xs, n, _, _, hlen, hxs, hall⟩ := DataW.trod_struct ht h
  refine ⟨hlen, fun i o s f hi hfi => ?_⟩
  obtain ⟨f', h1, h2, h3⟩ := hf.get hi
  have hff : f' = f := by
    have : fs.toList[i]? = some f := by simpa using hfi
    rw [this] at h1; exact (Option.some.inj h1).symm
  subst hff
  have h4 := hall i f' hfi
  rw [cellsOf_run h3, h2] at h4
  have hlt : i < xs.length := by
    rw [hxs]
    rcases Nat.lt_or_ge i fs.size with h' | h'
    · exact h'
    · simp [Array.getElem?_eq_none h'] at hfi
  exact ⟨n, xs[i], by rw [h4, List.getElem?_eq_getElem hlt]⟩

theorem int_trod {k : IntKind} (ht : P.underlying t = some (.int k)) (h : DataW.trod enc P w base spare held fuel t cs = some x) : ∃ i, cs = [.int k i] ∧ (Lit.int k i).wf = true := by
  obtain ⟨i, h1, h2⟩ := DataW.trod_int ht h
  exact ⟨i, h1, h2.2⟩
theorem bool_trod (ht : P.underlying t = some .bool) (h : DataW.trod enc P w base spare held fuel t cs = some x) : ∃ b, cs = [.bool b] := by
  obtain ⟨b, h1, _⟩ := DataW.trod_bool ht h
  exact ⟨b, h1⟩
theorem str_trod (ht : P.underlying t = some .string) (h : DataW.trod enc P w base spare held fuel t cs = some x) : ∃ l : List UInt8, cs = [.string ⟨l.toArray⟩] ∧ l.length ≤ maxLen := by
  obtain ⟨s, h1, h2⟩ := DataW.trod_string ht h
  exact ⟨s.data.toList, by simpa using h1, by have := h2.2; simpa only [Array.length_toList, ByteArray.size] using this⟩

theorem Row.app {p : Addr} {as bs : List Value} (h1 : Row w p as) (h2 : Row w (p.add as.length) bs) : Row w p (as ++ bs) := fun j v hj => by
  by_cases hlt : j < as.length
  · exact h1 j v (by rwa [List.getElem?_append_left hlt] at hj)
  · have := h2 (j - as.length) v (by rwa [List.getElem?_append_right (by omega)] at hj)
    rw [Deep.add_add] at this
    rwa [show as.length + (j - as.length) = j by omega] at this
theorem Row.many {a : Addr} {k : Nat} (C : Nat → List Value) : ∀ n, (∀ i, i < n → (C i).length = k ∧ Row w (a.add (i * k)) (C i)) → Row w a ((List.range n).map C).flatten ∧ ((List.range n).map C).flatten.length = n * k
  | 0, _ => ⟨fun j v hj => by simp at hj, by simp⟩
  | n + 1, h => by
    obtain ⟨h1, h2⟩ := Row.many C n fun i hi => h i (by omega)
    obtain ⟨h3, h4⟩ := h n (by omega)
    rw [List.range_succ, List.map_append, List.flatten_append]
    simp only [List.map_cons, List.map_nil, List.flatten_cons, List.flatten_nil, List.append_nil]
    exact ⟨h1.app (by rw [h2]; exact h4), by rw [List.length_append, h2, h3, Nat.succ_mul]⟩
theorem Row.ofCells {a : Addr} {k : Nat} {cs : List Value} (h : w.cells? base a k = some cs) : Row w a cs := fun j v hj => by
  obtain ⟨_, h1, h2⟩ := World.cells?_some h
  rw [h2 j (by rw [← h1]; exact (List.getElem?_eq_some_iff.1 hj).1)]
  exact hj

/-- A slice, opened: its elements' cells, each with its reading. -/
theorem slice_open {t e : TypeId} {k : Nat} (ht : P.underlying t = some (.slice e)) (hk : P.cellsOf e = k) (h : DataW.trod enc P w base spare held fuel t cs = some x) :
    ∃ (v : Value) (L : List (List Value)), cs = [v] ∧ Sl w k v L.length L.flatten ∧ L.length ≤ maxLen ∧ ∀ l ∈ L, l.length = k ∧ ∃ n y, DataW.trod enc P w base spare held n e l = some y := by
  rcases Deep.open_slice ht h with ⟨rfl, _⟩ | ⟨a, len, cap, m, n, D, Pl, rfl, _, hl, hm, hmm, rfl, hx⟩
  · exact ⟨_, [], rfl, ⟨none, 0, rfl, by simp, fun _ h => (by cases h), fun _ => rfl⟩, Nat.zero_le _, fun _ h => (by cases h)⟩
  · rw [hk] at hx
    have hle : len ≤ m := by rw [hmm]; split <;> omega
    obtain ⟨C, hC⟩ := Deep.choose_lt (α := List Value) (p := fun i cs' => w.cells? base (a.add (i * k)) k = some cs' ∧ DataW.trod enc P w base spare held n e cs' = some (D i, Pl i)) hx
    obtain ⟨h1, h2⟩ := Row.many (w := w) (a := a) (k := k) C len fun i hi => ⟨(World.cells?_some (hC i (by omega)).1).2.1, Row.ofCells (hC i (by omega)).1⟩
    refine ⟨_, (List.range len).map C, rfl, ⟨some a, cap, by simp, by rw [h2]; simp, fun b hb => (by cases hb; exact h1), fun h => (by cases h)⟩, by simp; omega, fun l hl' => ?_⟩
    obtain ⟨i, hi, rfl⟩ := List.mem_map.1 hl'
    have hi' : i < len := List.mem_range.1 hi
    exact ⟨(World.cells?_some (hC i (by omega)).1).2.1, n, _, (hC i (by omega)).2⟩

/-- Elements of one cell each, of a form f. -/
theorem list_map1 {α : Type} (f : α → Value) (q : α → Prop) : ∀ (L : List (List Value)), (∀ l ∈ L, ∃ a, l = [f a] ∧ q a) → ∃ xs : List α, L.flatten = xs.map f ∧ xs.length = L.length ∧ ∀ a ∈ xs, q a
  | [], _ => ⟨[], rfl, rfl, fun _ h => by cases h⟩
  | l :: L, h => by
    obtain ⟨a, rfl, ha⟩ := h l (by simp)
    obtain ⟨xs, h1, h2, h3⟩ := list_map1 f q L fun l hl => h l (by simp [hl])
    exact ⟨a :: xs, by simp [h1], by simp [h2], fun b hb => by
      rcases List.mem_cons.1 hb with rfl | hb
      · exact ha
      · exact h3 b hb⟩

theorem ints_open {t e : TypeId} {k : IntKind} (ht : P.underlying t = some (.slice e)) (he : P.underlying e = some (.int k)) (hc : P.cellsOf e = 1) (h : DataW.trod enc P w base spare held fuel t cs = some x) :
    ∃ (v : Value) (xs : List Int), cs = [v] ∧ Sl w 1 v xs.length (xs.map (.int k)) ∧ xs.length ≤ maxLen ∧ ∀ i ∈ xs, (Lit.int k i).wf = true := by
  obtain ⟨v, L, rfl, h1, h2, h3⟩ := slice_open ht hc h
  obtain ⟨xs, h4, h5, h6⟩ := list_map1 (.int k) (fun i => (Lit.int k i).wf = true) L fun l hl => by
    obtain ⟨_, n, y, hy⟩ := h3 l hl
    exact int_trod he hy
  exact ⟨v, xs, rfl, by rw [h5, ← h4]; exact h1, by omega, h6⟩
theorem strs_open {t e : TypeId} (ht : P.underlying t = some (.slice e)) (he : P.underlying e = some .string) (hc : P.cellsOf e = 1) (h : DataW.trod enc P w base spare held fuel t cs = some x) :
    ∃ (v : Value) (xs : List (List UInt8)), cs = [v] ∧ Sl w 1 v xs.length (xs.map fun l => .string ⟨l.toArray⟩) ∧ xs.length ≤ maxLen ∧ ∀ l ∈ xs, l.length ≤ maxLen := by
  obtain ⟨v, L, rfl, h1, h2, h3⟩ := slice_open ht hc h
  obtain ⟨xs, h4, h5, h6⟩ := list_map1 (fun l : List UInt8 => Value.string ⟨l.toArray⟩) (fun l => l.length ≤ maxLen) L fun l hl => by
    obtain ⟨_, n, y, hy⟩ := h3 l hl
    exact str_trod he hy
  exact ⟨v, xs, rfl, by rw [h5, ← h4]; exact h1, by omega, h6⟩
end
end Go.Proofs.YtahpiaaffeiadaaGreat
namespace Go.Proofs.YtahpiaaffeiadaaGreat
open Go Go.RowKit Go.ChangeShapes Go.WideShapes Go.ChangeAt
section
variable {H : Type} {enc : TypeId × Value → H} {P : Program} {w : World} {base : Nat}
/-- These cells read as a value of type t, each part of a size that a machine has. -/
def Rd (enc : TypeId × Value → H) (P : Program) (w : World) (base : Nat) (t : TypeId) (cs : List Value) : Prop :=
  ∃ (spare : Nat → Bool) (held : Bool) (fuel : Nat) (y : DataW H × List MemPlace), DataW.trod enc P w base spare held fuel t cs = some y ∧ ∀ n ∈ y.1.weights P t, n ≤ 140737488351232
theorem Rd.arg {spare : Nat → Bool} {held : Bool} {ts : List TypeId} {ds : List (DataW H)} (hz : (DataW.weightsEach P ts ds).all (· ≤ reachBytes) = true) (j : Nat) {t : TypeId} {d : DataW H} {v : Value} {p : List MemPlace} (ht : ts[j]? = some t) (hd : ds[j]? = some d)
    (h : DataW.Trod enc P w base spare held t v d p) : Rd enc P w base t v.cells.toList := by
  obtain ⟨fuel, hf⟩ := h
  exact ⟨_, _, fuel, _, hf, fun n hn => by
    have := List.all_eq_true.1 hz _ (DataW.weights_mem_each ht hd n hn)
    have h2 : n ≤ reachBytes := by simpa using this
    have h3 : reachBytes = 140737488351232 := by decide
    omega⟩
variable {t : TypeId} {cs : List Value}
theorem Rd.int {k : IntKind} (h : Rd enc P w base t cs) (ht : P.underlying t = some (.int k)) : ∃ i, cs = [.int k i] ∧ (Lit.int k i).wf = true := by
  obtain ⟨_, _, _, _, h, _⟩ := h
  exact int_trod ht h
theorem Rd.bool (h : Rd enc P w base t cs) (ht : P.underlying t = some .bool) : ∃ b, cs = [.bool b] := by
  obtain ⟨_, _, _, _, h, _⟩ := h
  exact bool_trod ht h
theorem Rd.str (h : Rd enc P w base t cs) (ht : P.underlying t = some .string) : ∃ l : List UInt8, cs = [.string ⟨l.toArray⟩] ∧ l.length ≤ 140737488351232 := by
  obtain ⟨_, _, _, y, h, hn⟩ := h
  obtain ⟨s, h1, rfl, _⟩ := DataW.trod_string ht h
  refine ⟨s.data.toList, by simpa using h1, hn _ ?_⟩
  simp [DataW.weights]
theorem Rd.fld {fs : Array Field} {r : List (Nat × Nat)} (h : Rd enc P w base t cs) (ht : P.underlying t = some (.struct fs)) (hf : FldsOk P fs.toList r) :
    cs.length = P.cellsOf t ∧ ∀ (i o s : Nat) (f : Field), r[i]? = some (o, s) → fs[i]? = some f → Rd enc P w base f.type ((cs.drop o).take s) := by
  obtain ⟨sp, hl, fu, y, h, hn⟩ := h
  obtain ⟨xs, n, _, rfl, hlen, hxs, hall⟩ := DataW.trod_struct ht h
  refine ⟨hlen, fun i o s f hi hfi => ?_⟩
  obtain ⟨f', h1, h2, h3⟩ := hf.get hi
  have hff : f' = f := by
    have : fs.toList[i]? = some f := by simpa using hfi
    rw [this] at h1; exact (Option.some.inj h1).symm
  subst hff
  have h4 := hall i f' hfi
  rw [cellsOf_run h3, h2] at h4
  have hlt : i < xs.length := by
    rw [hxs]
    rcases Nat.lt_or_ge i fs.size with h' | h'
    · exact h'
    · simp [Array.getElem?_eq_none h'] at hfi
  refine ⟨sp, hl, n, xs[i], by rw [h4, List.getElem?_eq_getElem hlt], fun m hm => hn m ?_⟩
  simp only [DataW.weights, ht]
  exact DataW.weights_mem_each (j := i) (t := f'.type) (d := xs[i].1) (by simp [hfi]) (by simp [hlt]) m hm
/-- The same by the table of types. -/
theorem Rd.fldT [Tys P] {fs : Array Field} {p : Nat × Nat} {r : List (Nat × Nat)} (h : Rd enc P w base t cs) (ht : P.underlying t = some (.struct fs)) (hf : fldsOf P t = some (p :: r)) :
    cs.length = P.cellsOf t ∧ ∀ (i o s : Nat) (f : Field), (p :: r)[i]? = some (o, s) → fs[i]? = some f → Rd enc P w base f.type ((cs.drop o).take s) := by
  obtain ⟨fs', h1, h2⟩ := und_flds hf (by simp)
  rw [ht] at h1
  cases h1
  exact h.fld ht h2
theorem one_eq {a b : Value} (h : [a] = [b]) : a = b := by cases h; rfl
theorem weights_mem_all {e : TypeId} : ∀ {ds : List (DataW H)} {d : DataW H}, d ∈ ds → ∀ n ∈ d.weights P e, n ∈ DataW.weightsAll P e ds
  | d0 :: ds, d, hd, n, hn => by
    simp only [DataW.weightsAll, List.mem_append]
    rcases List.mem_cons.1 hd with rfl | hd
    · exact Or.inl hn
    · exact Or.inr (weights_mem_all hd n hn)
theorem Rd.arr {m e k : Nat} (h : Rd enc P w base t cs) (ht : P.underlying t = some (.array m e)) (hk : P.cellsOf e = k) : cs.length = P.cellsOf t ∧ ∀ i, i < m → Rd enc P w base e ((cs.drop (i * k)).take k) := by
  obtain ⟨sp, hl, fu, y, h, hn⟩ := h
  obtain ⟨xs, n, _, rfl, hlen, hxs, hall⟩ := DataW.trod_array ht h
  refine ⟨hlen, fun i hi => ?_⟩
  have h4 := hall i hi
  rw [hk] at h4
  have hlt : i < xs.length := by omega
  refine ⟨sp, hl, n, xs[i], by rw [h4, List.getElem?_eq_getElem hlt], fun m hm => hn m ?_⟩
  simp only [DataW.weights, ht]
  exact weights_mem_all (d := xs[i].1) (List.mem_map.2 ⟨xs[i], List.getElem_mem hlt, rfl⟩) m hm
/-- A slice, opened: its elements' cells, each with its reading. -/
theorem Rd.sl {e : TypeId} {k : Nat} (h : Rd enc P w base t cs) (ht : P.underlying t = some (.slice e)) (hk : P.cellsOf e = k) :
    ∃ (v : Value) (L : List (List Value)), cs = [v] ∧ Sl w k v L.length L.flatten ∧ L.length ≤ maxLen ∧ L.length * P.bytesOf e ≤ 140737488351232 ∧ ∀ l ∈ L, l.length = k ∧ Rd enc P w base e l := by
  obtain ⟨sp, hl, fu, y, h, hn⟩ := h
  rcases Deep.open_slice ht h with ⟨rfl, _⟩ | ⟨a, len, cap, m, n, D, Pl, rfl, _, hl, hm, hmm, rfl, hx⟩
  · exact ⟨_, [], rfl, ⟨none, 0, rfl, by simp, fun _ h => (by cases h), fun _ => rfl⟩, Nat.zero_le _, by simp, fun _ h => (by cases h)⟩
  · rw [hk] at hx
    have hle : len ≤ m := by rw [hmm]; split <;> omega
    obtain ⟨C, hC⟩ := Deep.choose_lt (α := List Value) (p := fun i cs' => w.cells? base (a.add (i * k)) k = some cs' ∧ DataW.trod enc P w base sp _ n e cs' = some (D i, Pl i)) hx
    obtain ⟨h1, h2⟩ := Row.many (w := w) (a := a) (k := k) C len fun i hi => ⟨(World.cells?_some (hC i (by omega)).1).2.1, Row.ofCells (hC i (by omega)).1⟩
    have hw : (len + (m - len)) * P.bytesOf e ≤ 140737488351232 := hn _ (by simp [DataW.weights, ht])
    refine ⟨_, (List.range len).map C, rfl, ⟨some a, cap, by simp, by rw [h2]; simp, fun b hb => (by cases hb; exact h1), fun h => (by cases h)⟩, by simp; omega, ?_, fun l hl' => ?_⟩
    · rw [List.length_map, List.length_range]
      exact Nat.le_trans (Nat.mul_le_mul_right _ (by omega)) hw
    · obtain ⟨i, hi, rfl⟩ := List.mem_map.1 hl'
      have hi' : i < len := List.mem_range.1 hi
      refine ⟨(World.cells?_some (hC i (by omega)).1).2.1, sp, _, n, _, (hC i (by omega)).2, fun q hq => hn q ?_⟩
      simp only [DataW.weights, ht, List.mem_cons, List.mem_append]
      exact Or.inr (Or.inl (weights_mem_all (List.mem_map.2 ⟨i, hi, rfl⟩) q hq))
/-- A slice that came in is no longer than its room. -/
theorem Rd.cap {e : TypeId} {v : Value} (h : Rd enc P w base t [v]) (ht : P.underlying t = some (.slice e)) : ∃ ao m c, v = .slice ao m c ∧ m ≤ c := by
  obtain ⟨sp, hl, fu, y, h, hn⟩ := h
  rcases Deep.open_slice ht h with ⟨he, _⟩ | ⟨a, len, cap, m, n, D, Pl, he, _, hl, hm, hmm, rfl, hx⟩
  · obtain rfl : v = _ := one_eq he
    exact ⟨none, 0, 0, rfl, Nat.le_refl _⟩
  · obtain rfl : v = _ := one_eq he
    exact ⟨_, _, _, rfl, hl⟩
/-- A slice of integers. -/
theorem Rd.ints {e : TypeId} {k : IntKind} (h : Rd enc P w base t cs) (ht : P.underlying t = some (.slice e)) (he : P.underlying e = some (.int k)) (hc : P.cellsOf e = 1) :
    ∃ (v : Value) (xs : List Int), cs = [v] ∧ Sl w 1 v xs.length (xs.map (.int k)) ∧ xs.length * P.bytesOf e ≤ 140737488351232 ∧ ∀ i ∈ xs, (Lit.int k i).wf = true := by
  obtain ⟨v, L, rfl, h1, _, h2, h3⟩ := h.sl ht hc
  obtain ⟨xs, h4, h5, h6⟩ := list_map1 (.int k) (fun i => (Lit.int k i).wf = true) L fun l hl => (h3 l hl).2.int he
  exact ⟨v, xs, rfl, by rw [h5, ← h4]; exact h1, by rw [h5]; exact h2, h6⟩
/-- A slice of texts. -/
theorem Rd.strs {e : TypeId} (h : Rd enc P w base t cs) (ht : P.underlying t = some (.slice e)) (he : P.underlying e = some .string) (hc : P.cellsOf e = 1) :
    ∃ (v : Value) (xs : List (List UInt8)), cs = [v] ∧ Sl w 1 v xs.length (xs.map fun l => .string ⟨l.toArray⟩) ∧ xs.length * P.bytesOf e ≤ 140737488351232 ∧ ∀ l ∈ xs, l.length ≤ 140737488351232 := by
  obtain ⟨v, L, rfl, h1, _, h2, h3⟩ := h.sl ht hc
  obtain ⟨xs, h4, h5, h6⟩ := list_map1 (fun l : List UInt8 => Value.string ⟨l.toArray⟩) (fun l => l.length ≤ 140737488351232) L fun l hl => (h3 l hl).2.str he
  exact ⟨v, xs, rfl, by rw [h5, ← h4]; exact h1, by rw [h5]; exact h2, h6⟩
/-- Elements of k cells each, told by things of a type. -/
theorem list_mapN {α : Type} (f : α → List Value) (q : α → Prop) : ∀ (L : List (List Value)), (∀ l ∈ L, ∃ a, l = f a ∧ q a) → ∃ xs : List α, L.flatten = xs.flatMap f ∧ xs.length = L.length ∧ ∀ a ∈ xs, q a
  | [], _ => ⟨[], rfl, rfl, fun _ h => by cases h⟩
  | l :: L, h => by
    obtain ⟨a, rfl, ha⟩ := h l (by simp)
    obtain ⟨xs, h1, h2, h3⟩ := list_mapN f q L fun l hl => h l (by simp [hl])
    exact ⟨a :: xs, by simp [h1], by simp [h2], fun b hb => by
      rcases List.mem_cons.1 hb with rfl | hb
      · exact ha
      · exact h3 b hb⟩
theorem flat1 : ∀ cs : List Value, cs = (cs.map fun c => [c]).flatten
  | [] => rfl
  | c :: cs => by rw [List.map_cons, List.flatten_cons, ← flat1 cs]; rfl
/-- An array of integers: their cells. -/
theorem Rd.arrInts {m e : Nat} {k : IntKind} (h : Rd enc P w base t cs) (ht : P.underlying t = some (.array m e)) (he : P.underlying e = some (.int k)) (hc : P.cellsOf e = 1) (hs : P.cellsOf t = m) :
    ∃ xs : List Int, cs = xs.map (.int k) ∧ xs.length = m ∧ ∀ i ∈ xs, (Lit.int k i).wf = true := by
  obtain ⟨h1, h2⟩ := h.arr ht hc
  rw [hs] at h1
  obtain ⟨xs, h4, h5, h6⟩ := list_map1 (.int k) (fun i => (Lit.int k i).wf = true) (cs.map fun c => [c]) fun l hl => by
    obtain ⟨c, hc', rfl⟩ := List.mem_map.1 hl
    obtain ⟨i, hi, rfl⟩ := List.getElem_of_mem hc'
    have := h2 i (by omega)
    rw [Nat.mul_one, List.drop_eq_getElem_cons hi, List.take_succ_cons, List.take_zero] at this
    simpa using this.int he
  exact ⟨xs, by rw [← h4]; exact flat1 cs, by rw [h5, List.length_map, h1], h6⟩
end
end Go.Proofs.YtahpiaaffeiadaaGreat
namespace Go.Proofs.YtahpiaaffeiadaaGreat
open Go Go.RowKit

theorem info_of_run {P : Program} {T : TypeId} {i : TypeInfo} (h : ∀ w, (typeInfo T).run P w = .ok i w) : P.info? T = some i := by
  have h' := h default
  unfold typeInfo at h'
  rw [Sem.run_bind, run_program] at h'
  simp only [Result.andThen_ok] at h'
  cases hi : P.info? T with
  | none => rw [hi] at h'; simp at h'
  | some j => rw [hi] at h'; simp at h'; rw [h']

section
variable {P : Program} [Tys P] {n : Fm} {ops : Array Oper} {Q : Exit → Act → World → Prop} {fr : Fr} {w : World} {T : TypeId}

theorem run_app {U e s by' base m m' : Nat} {z v u : Value} {xs news : List Value} (hU : slOf P U = some (e, s + 1)) (hz : zerOf P e = some z) (hzs : Nat.beq z.cells.size (s + 1) = true) (hby : byOf P e = some by') (hsz : szOf P e = some (s + 1))
    (hown : w.ownsRow base e (s + 1) v m xs) (hs : Sl w (s + 1) u m' news) (h1 : ∀ c ∈ news, c.oneCell' = true) (hbase : base ≤ w.heap.size) (hb1 : m + m' ≤ maxLen) (hb2 : (m + m') * by' ≤ 140737488355328) :
    ∃ v' w', (Builtin.append_ #[U, U] T #[v, u]).run P w = .ok v' w' ∧ w'.ownsRow base e (s + 1) v' (m + m') (xs ++ news) ∧ w.grownBy w' v.ownBlock ∧ (v' = .slice none 0 0 ↔ v = .slice none 0 0 ∧ m' = 0) := by
  obtain ⟨hund, hsize⟩ := und_sl hU
  obtain ⟨i, hi, hib, his⟩ := run_inf hby hsz
  have hinfo := info_of_run hi
  have hzz : i.zero = some z := by
    have := run_zero hz w
    unfold zeroValue at this
    rw [Sem.run_bind, hi] at this
    simp only [Result.andThen_ok] at this
    cases hiz : i.zero with
    | none => rw [hiz] at this; simp at this
    | some z' => rw [hiz] at this; simp at this; rw [this]
  have hzs := Nat.eq_of_beq_eq_true hzs
  obtain ⟨ao, c, rfl, hl, hr, hn⟩ := hs
  cases ao with
  | none =>
    have hm' := hn rfl
    subst hm'
    have hnil : news = [] := List.eq_nil_of_length_eq_zero (by simpa using hl)
    subst hnil
    have hrun : (Builtin.append_ #[U, U] T #[v, .slice none 0 c]).run P w = .ok v w := by
      rcases hown.2 with ⟨rfl, rfl⟩ | ⟨g, cap, cur, rfl, hbg, hg, hnc, hcm, hcs, htake⟩
      · simp [Builtin.append_, run_underlying hund, sizeOf, hi, Builtin.lenOf, Builtin.firstCells]
      · simp [Builtin.append_, run_underlying hund, sizeOf, hi, Builtin.lenOf, Builtin.firstCells, hnc, storeCells]
    exact ⟨v, w, hrun, by simpa using hown, ⟨rfl, rfl, rfl, Nat.le_refl _, fun _ _ _ => rfl⟩, by simp⟩
  | some a =>
    exact run_append_own w base U T e i z (s + 1) by' hund hinfo hzz his hib hzs (by omega) v m xs hown a m' c news hl (hr a rfl) h1 hb1 hb2 hbase

/-- 'append(v, u...)', v one's own. -/
theorem Seg.append {d U e s by' base m m' : Nat} {x y : Operand} {pos : String} {aft : Array Edge} {g : Option (Nat × Bool)} {rest : List Oper} {z v u : Value} {xs news : List Value}
    (hg : gd ops fr g = some true) (hd : Nat.blt d n.n = true) (hU : slOf P U = some (e, s + 1)) (hz : zerOf P e = some z) (hzs : Nat.beq z.cells.size (s + 1) = true) (hby : byOf P e = some by') (hsz : szOf P e = some (s + 1))
    (hx : Fr.ev fr x = some v) (hy : Fr.ev fr y = some u) (hown : w.ownsRow base e (s + 1) v m xs) (hs : Sl w (s + 1) u m' news) (h1 : ∀ c ∈ news, c.oneCell' = true) (hbase : base ≤ w.heap.size) (hb : m + m' ≤ 100000000) (hb' : Nat.ble by' 1000000 = true)
    (k : ∀ v' w1, w1.ownsRow base e (s + 1) v' (m + m') (xs ++ news) → w.grownBy w1 v.ownBlock → (v' = .slice none 0 0 ↔ v = .slice none 0 0 ∧ m' = 0) → Seg P n ops Q rest ((d, v') :: fr) w1) :
    Seg P n ops Q (⟨some d, .call ⟨.builtin .append, #[x, y], #[U, U]⟩, T, pos, aft, g⟩ :: rest) fr w := by
  obtain ⟨v', w1, hrun, h2, h3, h4⟩ := run_app (T := T) hU hz hzs hby hsz hown hs h1 hbase (by unfold maxLen; omega) (by
    have h5 : (m + m') * by' ≤ 100000000 * 1000000 := Nat.mul_le_mul hb (Nat.le_of_ble_eq_true hb')
    omega)
  refine Seg.step hg hd (.val fun a ha d pos aft g => ?_) (k v' w1 h2 h3 h4)
  simp [execOp, resolve, invoke, builtin, ha.ev hx, ha.ev hy, hrun]

/-- 'append(nil, u...)': a copy in a block of its own. -/
theorem Seg.appendNil {d U e s by' m' : Nat} {x y : Operand} {pos : String} {aft : Array Edge} {g : Option (Nat × Bool)} {rest : List Oper} {z u : Value} {news : List Value}
    (hg : gd ops fr g = some true) (hd : Nat.blt d n.n = true) (hU : slOf P U = some (e, s + 1)) (hz : zerOf P e = some z) (hzs : Nat.beq z.cells.size (s + 1) = true) (hby : byOf P e = some by') (hsz : szOf P e = some (s + 1))
    (hx : Fr.ev fr x = some (.slice none 0 0)) (hy : Fr.ev fr y = some u) (hs : Sl w (s + 1) u m' news) (h1 : ∀ c ∈ news, c.oneCell' = true) (hb : m' ≤ 100000000) (hb' : Nat.ble by' 1000000 = true)
    (k : ∀ v' w1, w1.ownsRow w.heap.size e (s + 1) v' m' news → Ext w w1 → Seg P n ops Q rest ((d, v') :: fr) w1) :
    Seg P n ops Q (⟨some d, .call ⟨.builtin .append, #[x, y], #[U, U]⟩, T, pos, aft, g⟩ :: rest) fr w :=
  Seg.append hg hd hU hz hzs hby hsz hx hy (World.ownsRow_nil w w.heap.size e (s + 1)) hs h1 (Nat.le_refl _) (by omega) hb'
    (fun v' w1 h2 h3 _ => k v' w1 (by simpa using h2) (grown_ext h3))

/-- 'append(v, u...)', v one's own and empty. -/
theorem Seg.append0 {d U e s by' base m' : Nat} {x y : Operand} {pos : String} {aft : Array Edge} {g : Option (Nat × Bool)} {rest : List Oper} {z v u : Value} {news : List Value}
    (hg : gd ops fr g = some true) (hd : Nat.blt d n.n = true) (hU : slOf P U = some (e, s + 1)) (hz : zerOf P e = some z) (hzs : Nat.beq z.cells.size (s + 1) = true) (hby : byOf P e = some by') (hsz : szOf P e = some (s + 1))
    (hx : Fr.ev fr x = some v) (hy : Fr.ev fr y = some u) (hown : w.ownsRow base e (s + 1) v 0 []) (hs : Sl w (s + 1) u m' news) (h1 : ∀ c ∈ news, c.oneCell' = true) (hbase : base ≤ w.heap.size) (hb : m' ≤ 100000000) (hb' : Nat.ble by' 1000000 = true)
    (k : ∀ v' w1, w1.ownsRow base e (s + 1) v' m' news → w.grownBy w1 v.ownBlock → (v' = .slice none 0 0 ↔ v = .slice none 0 0 ∧ m' = 0) → Seg P n ops Q rest ((d, v') :: fr) w1) :
    Seg P n ops Q (⟨some d, .call ⟨.builtin .append, #[x, y], #[U, U]⟩, T, pos, aft, g⟩ :: rest) fr w :=
  Seg.append hg hd hU hz hzs hby hsz hx hy hown hs h1 hbase (by omega) hb' (fun v' w1 h2 h3 h4 => k v' w1 (by simpa using h2) h3 h4)

/-- A fresh empty slice is one's own. -/
theorem own_empty {w : World} {base e k b : Nat} (T : TypeId) (hb : base ≤ b) (h : w.heap[b]? = some (.cells #[] T (0, 0))) (hT : T = e) : w.ownsRow base e k (.slice (some ⟨b, 0, none⟩) 0 0) 0 [] := by
  subst hT
  exact ⟨by simp, .inr ⟨b, 0, #[], rfl, hb, h, Nat.le_refl _, Nat.zero_le _, by simp, by simp⟩⟩
end
end Go.Proofs.YtahpiaaffeiadaaGreat
namespace Go.Proofs.YtahpiaaffeiadaaGreat
open Go Go.RowKit

def bitsAnd (k : IntKind) (i j : Int) : Int := k.wrap (BitVec.ofInt k.bits i &&& BitVec.ofInt k.bits j).toNat
def bitsOr (k : IntKind) (i j : Int) : Int := k.wrap (BitVec.ofInt k.bits i ||| BitVec.ofInt k.bits j).toNat
def bitsXor (k : IntKind) (i j : Int) : Int := k.wrap (BitVec.ofInt k.bits i ^^^ BitVec.ofInt k.bits j).toNat
def bitsAndNot (k : IntKind) (i j : Int) : Int := k.wrap (BitVec.ofInt k.bits i &&& ~~~ BitVec.ofInt k.bits j).toNat
section
variable {P : Program} {n : Fm} {fr : Fr} {w : World} {x y : Operand} {U U' T : TypeId} {k : IntKind} {i j : Int}
theorem Yd.xor (hx : Fr.ev fr x = some (.int k i)) (hy : Fr.ev fr y = some (.int k j)) : Yd P n (.binOp .xor U x y U') T fr w (.int k (bitsXor k i j)) w :=
  .bin hx hy eqGuard_int (by simp [binOp, Op.intBits, bitsXor])
theorem Yd.and (hx : Fr.ev fr x = some (.int k i)) (hy : Fr.ev fr y = some (.int k j)) : Yd P n (.binOp .and U x y U') T fr w (.int k (bitsAnd k i j)) w :=
  .bin hx hy eqGuard_int (by simp [binOp, Op.intBits, bitsAnd])
theorem Yd.or (hx : Fr.ev fr x = some (.int k i)) (hy : Fr.ev fr y = some (.int k j)) : Yd P n (.binOp .or U x y U') T fr w (.int k (bitsOr k i j)) w :=
  .bin hx hy eqGuard_int (by simp [binOp, Op.intBits, bitsOr])
theorem Yd.andNot (hx : Fr.ev fr x = some (.int k i)) (hy : Fr.ev fr y = some (.int k j)) : Yd P n (.binOp .andNot U x y U') T fr w (.int k (bitsAndNot k i j)) w :=
  .bin hx hy eqGuard_int (by simp [binOp, Op.intBits, bitsAndNot])
end

/-- A slice of one's own that is not empty lies at the head of a block of its own. -/
theorem own_bx {w : World} {base e k m : Nat} {v : Value} {cs : List Value} (h : w.ownsRow base e k v m cs) (hm : 0 < m) :
    ∃ g c zs, v = .slice (some ⟨g, 0, none⟩) m c ∧ base ≤ g ∧ Bx w g (cs ++ zs) := by
  obtain ⟨h1, h2⟩ := h
  rcases h2 with ⟨rfl, rfl⟩ | ⟨g, cap, cur, rfl, hb, hh, hn, hc, hs, ht⟩
  · omega
  · exact ⟨g, cap, cur.toList.drop (m * k), rfl, hb, e, by rw [← ht, List.take_append_drop]; simpa using hh⟩
/-- A slice of one's own grew: what lay below its base stays. -/
theorem Ext.own {a w w' : World} {base e k m : Nat} {v : Value} {cs : List Value} (h : Ext a w) (ho : w.ownsRow base e k v m cs) (hb : a.heap.size ≤ base) (hg : w.grownBy w' v.ownBlock) : Ext a w' :=
  Below.grown h hg h.size (fun b hk => by
    obtain ⟨_, h2⟩ := ho
    rcases h2 with ⟨rfl, rfl⟩ | ⟨g, cap, cur, rfl, hbb, _⟩
    · cases hk
    · cases hk; exact Nat.le_trans hb hbb)
end Go.Proofs.YtahpiaaffeiadaaGreat
