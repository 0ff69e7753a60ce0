/- Arguments that came in, opened, with the bounds of their sizes. -/
import Derived.Test.YtccppgpedlfjdaaWky
import Derived.OpenShut
import Derived.SizedLaws
namespace Go.Proofs.Ytccppgpedlfjdaa
open Go Go.RowKit Go.ChangeShapes Go.WideShapes Go.ChangeAt
section
variable {H : Type} {enc : TypeId × Value → H} {P : Program} {w : World} {base : Nat}
/-- These cells read as a value of type t, each part of a size that a machine has. -/
def Rd (enc : TypeId × Value → H) (P : Program) (w : World) (base : Nat) (t : TypeId) (cs : List Value) : Prop :=
  ∃ (spare : Nat → Bool) (held : Bool) (fuel : Nat) (y : DataW H × List MemPlace), DataW.trod enc P w base spare held fuel t cs = some y ∧ ∀ n ∈ y.1.weights P t, n ≤ 140737488351232
theorem Rd.arg {spare : Nat → Bool} {held : Bool} {ts : List TypeId} {ds : List (DataW H)} (hz : (DataW.weightsEach P ts ds).all (· ≤ reachBytes) = true) (j : Nat) {t : TypeId} {d : DataW H} {v : Value} {p : List MemPlace} (ht : ts[j]? = some t) (hd : ds[j]? = some d)
    (h : DataW.Trod enc P w base spare held t v d p) : Rd enc P w base t v.cells.toList := by
  obtain ⟨fuel, hf⟩ := h
  exact ⟨_, _, fuel, _, hf, fun n hn => by
    have := List.all_eq_true.1 hz _ (DataW.weights_mem_each ht hd n hn)
    have h2 : n ≤ reachBytes := by simpa using this
    have h3 : reachBytes = 140737488351232 := by decide
    omega⟩
variable {t : TypeId} {cs : List Value}
theorem Rd.int {k : IntKind} (h : Rd enc P w base t cs) (ht : P.underlying t = some (.int k)) : ∃ i, cs = [.int k i] ∧ (Lit.int k i).wf = true := by
  obtain ⟨_, _, _, _, h, _⟩ := h
  exact int_trod ht h
theorem Rd.bool (h : Rd enc P w base t cs) (ht : P.underlying t = some .bool) : ∃ b, cs = [.bool b] := by
  obtain ⟨_, _, _, _, h, _⟩ := h
  exact bool_trod ht h
theorem Rd.str (h : Rd enc P w base t cs) (ht : P.underlying t = some .string) : ∃ l : List UInt8, cs = [.string ⟨l.toArray⟩] ∧ l.length ≤ 140737488351232 := by
  obtain ⟨_, _, _, y, h, hn⟩ := h
  obtain ⟨s, h1, rfl, _⟩ := DataW.trod_string ht h
  refine ⟨s.data.toList, by simpa using h1, hn _ ?_⟩
  simp [DataW.weights]
theorem Rd.fld {fs : Array Field} {r : List (Nat × Nat)} (h : Rd enc P w base t cs) (ht : P.underlying t = some (.struct fs)) (hf : FldsOk P fs.toList r) :
    cs.length = P.cellsOf t ∧ ∀ (i o s : Nat) (f : Field), r[i]? = some (o, s) → fs[i]? = some f → Rd enc P w base f.type ((cs.drop o).take s) := by
  obtain ⟨sp, hl, fu, y, h, hn⟩ := h
  obtain ⟨xs, n, _, rfl, hlen, hxs, hall⟩ := DataW.trod_struct ht h
  refine ⟨hlen, fun i o s f hi hfi => ?_⟩
  obtain ⟨f', h1, h2, h3⟩ := hf.get hi
  have hff : f' = f := by
    have : fs.toList[i]? = some f := by simpa using hfi
    rw [this] at h1; exact (Option.some.inj h1).symm
  subst hff
  have h4 := hall i f' hfi
  rw [cellsOf_run h3, h2] at h4
  have hlt : i < xs.length := by
    rw [hxs]
    rcases Nat.lt_or_ge i fs.size with h' | h'
    · exact h'
    · simp [Array.getElem?_eq_none h'] at hfi
  refine ⟨sp, hl, n, xs[i], by rw [h4, List.getElem?_eq_getElem hlt], fun m hm => hn m ?_⟩
  simp only [DataW.weights, ht]
  exact DataW.weights_mem_each (j := i) (t := f'.type) (d := xs[i].1) (by simp [hfi]) (by simp [hlt]) m hm
/-- The same by the table of types. -/
theorem Rd.fldT [Tys P] {fs : Array Field} {p : Nat × Nat} {r : List (Nat × Nat)} (h : Rd enc P w base t cs) (ht : P.underlying t = some (.struct fs)) (hf : fldsOf P t = some (p :: r)) :
    cs.length = P.cellsOf t ∧ ∀ (i o s : Nat) (f : Field), (p :: r)[i]? = some (o, s) → fs[i]? = some f → Rd enc P w base f.type ((cs.drop o).take s) := by
  obtain ⟨fs', h1, h2⟩ := und_flds hf (by simp)
  rw [ht] at h1
  cases h1
  exact h.fld ht h2
theorem one_eq {a b : Value} (h : [a] = [b]) : a = b := by cases h; rfl
theorem weights_mem_all {e : TypeId} : ∀ {ds : List (DataW H)} {d : DataW H}, d ∈ ds → ∀ n ∈ d.weights P e, n ∈ DataW.weightsAll P e ds
  | d0 :: ds, d, hd, n, hn => by
    simp only [DataW.weightsAll, List.mem_append]
    rcases List.mem_cons.1 hd with rfl | hd
    · exact Or.inl hn
    · exact Or.inr (weights_mem_all hd n hn)
theorem Rd.arr {m e k : Nat} (h : Rd enc P w base t cs) (ht : P.underlying t = some (.array m e)) (hk : P.cellsOf e = k) : cs.length = P.cellsOf t ∧ ∀ i, i < m → Rd enc P w base e ((cs.drop (i * k)).take k) := by
  obtain ⟨sp, hl, fu, y, h, hn⟩ := h
  obtain ⟨xs, n, _, rfl, hlen, hxs, hall⟩ := DataW.trod_array ht h
  refine ⟨hlen, fun i hi => ?_⟩
  have h4 := hall i hi
  rw [hk] at h4
  have hlt : i < xs.length := by omega
  refine ⟨sp, hl, n, xs[i], by rw [h4, List.getElem?_eq_getElem hlt], fun m hm => hn m ?_⟩
  simp only [DataW.weights, ht]
  exact weights_mem_all (d := xs[i].1) (List.mem_map.2 ⟨xs[i], List.getElem_mem hlt, rfl⟩) m hm
/-- A slice, opened: its elements' cells, each with its reading. -/
theorem Rd.sl {e : TypeId} {k : Nat} (h : Rd enc P w base t cs) (ht : P.underlying t = some (.slice e)) (hk : P.cellsOf e = k) :
    ∃ (v : Value) (L : List (List Value)), cs = [v] ∧ Sl w k v L.length L.flatten ∧ L.length ≤ maxLen ∧ L.length * P.bytesOf e ≤ 140737488351232 ∧ ∀ l ∈ L, l.length = k ∧ Rd enc P w base e l := by
  obtain ⟨sp, hl, fu, y, h, hn⟩ := h
  rcases Deep.open_slice ht h with ⟨rfl, _⟩ | ⟨a, len, cap, m, n, D, Pl, rfl, _, hl, hm, hmm, rfl, hx⟩
  · exact ⟨_, [], rfl, ⟨none, 0, rfl, by simp, fun _ h => (by cases h), fun _ => rfl⟩, Nat.zero_le _, by simp, fun _ h => (by cases h)⟩
  · rw [hk] at hx
    have hle : len ≤ m := by rw [hmm]; split <;> omega
    obtain ⟨C, hC⟩ := Deep.choose_lt (α := List Value) (p := fun i cs' => w.cells? base (a.add (i * k)) k = some cs' ∧ DataW.trod enc P w base sp _ n e cs' = some (D i, Pl i)) hx
    obtain ⟨h1, h2⟩ := Row.many (w := w) (a := a) (k := k) C len fun i hi => ⟨(World.cells?_some (hC i (by omega)).1).2.1, Row.ofCells (hC i (by omega)).1⟩
    have hw : (len + (m - len)) * P.bytesOf e ≤ 140737488351232 := hn _ (by simp [DataW.weights, ht])
    refine ⟨_, (List.range len).map C, rfl, ⟨some a, cap, by simp, by rw [h2]; simp, fun b hb => (by cases hb; exact h1), fun h => (by cases h)⟩, by simp; omega, ?_, fun l hl' => ?_⟩
    · rw [List.length_map, List.length_range]
      exact Nat.le_trans (Nat.mul_le_mul_right _ (by omega)) hw
    · obtain ⟨i, hi, rfl⟩ := List.mem_map.1 hl'
      have hi' : i < len := List.mem_range.1 hi
      refine ⟨(World.cells?_some (hC i (by omega)).1).2.1, sp, _, n, _, (hC i (by omega)).2, fun q hq => hn q ?_⟩
      simp only [DataW.weights, ht, List.mem_cons, List.mem_append]
      exact Or.inr (Or.inl (weights_mem_all (List.mem_map.2 ⟨i, hi, rfl⟩) q hq))
/-- A slice that came in is no longer than its room. -/
theorem Rd.cap {e : TypeId} {v : Value} (h : Rd enc P w base t [v]) (ht : P.underlying t = some (.slice e)) : ∃ ao m c, v = .slice ao m c ∧ m ≤ c := by
  obtain ⟨sp, hl, fu, y, h, hn⟩ := h
  rcases Deep.open_slice ht h with ⟨he, _⟩ | ⟨a, len, cap, m, n, D, Pl, he, _, hl, hm, hmm, rfl, hx⟩
  · obtain rfl : v = _ := one_eq he
    exact ⟨none, 0, 0, rfl, Nat.le_refl _⟩
  · obtain rfl : v = _ := one_eq he
    exact ⟨_, _, _, rfl, hl⟩
/-- A slice of integers. -/
theorem Rd.ints {e : TypeId} {k : IntKind} (h : Rd enc P w base t cs) (ht : P.underlying t = some (.slice e)) (he : P.underlying e = some (.int k)) (hc : P.cellsOf e = 1) :
    ∃ (v : Value) (xs : List Int), cs = [v] ∧ Sl w 1 v xs.length (xs.map (.int k)) ∧ xs.length * P.bytesOf e ≤ 140737488351232 ∧ ∀ i ∈ xs, (Lit.int k i).wf = true := by
  obtain ⟨v, L, rfl, h1, _, h2, h3⟩ := h.sl ht hc
  obtain ⟨xs, h4, h5, h6⟩ := list_map1 (.int k) (fun i => (Lit.int k i).wf = true) L fun l hl => (h3 l hl).2.int he
  exact ⟨v, xs, rfl, by rw [h5, ← h4]; exact h1, by rw [h5]; exact h2, h6⟩
/-- A slice of texts. -/
theorem Rd.strs {e : TypeId} (h : Rd enc P w base t cs) (ht : P.underlying t = some (.slice e)) (he : P.underlying e = some .string) (hc : P.cellsOf e = 1) :
    ∃ (v : Value) (xs : List (List UInt8)), cs = [v] ∧ Sl w 1 v xs.length (xs.map fun l => .string ⟨l.toArray⟩) ∧ xs.length * P.bytesOf e ≤ 140737488351232 ∧ ∀ l ∈ xs, l.length ≤ 140737488351232 := by
  obtain ⟨v, L, rfl, h1, _, h2, h3⟩ := h.sl ht hc
  obtain ⟨xs, h4, h5, h6⟩ := list_map1 (fun l : List UInt8 => Value.string ⟨l.toArray⟩) (fun l => l.length ≤ 140737488351232) L fun l hl => (h3 l hl).2.str he
  exact ⟨v, xs, rfl, by rw [h5, ← h4]; exact h1, by rw [h5]; exact h2, h6⟩
/-- Elements of k cells each, told by things of a type. -/
theorem list_mapN {α : Type} (f : α → List Value) (q : α → Prop) : ∀ (L : List (List Value)), (∀ l ∈ L, ∃ a, l = f a ∧ q a) → ∃ xs : List α, L.flatten = xs.flatMap f ∧ xs.length = L.length ∧ ∀ a ∈ xs, q a
  | [], _ => ⟨[], rfl, rfl, fun _ h => by cases h⟩
  | l :: L, h => by
    obtain ⟨a, rfl, ha⟩ := h l (by simp)
    obtain ⟨xs, h1, h2, h3⟩ := list_mapN f q L fun l hl => h l (by simp [hl])
    exact ⟨a :: xs, by simp [h1], by simp [h2], fun b hb => by
      rcases List.mem_cons.1 hb with rfl | hb
      · exact ha
      · exact h3 b hb⟩
theorem flat1 : ∀ cs : List Value, cs = (cs.map fun c => [c]).flatten
  | [] => rfl
  | c :: cs => by rw [List.map_cons, List.flatten_cons, ← flat1 cs]; rfl
/-- An array of integers: their cells. -/
theorem Rd.arrInts {m e : Nat} {k : IntKind} (h : Rd enc P w base t cs) (ht : P.underlying t = some (.array m e)) (he : P.underlying e = some (.int k)) (hc : P.cellsOf e = 1) (hs : P.cellsOf t = m) :
    ∃ xs : List Int, cs = xs.map (.int k) ∧ xs.length = m ∧ ∀ i ∈ xs, (Lit.int k i).wf = true := by
  obtain ⟨h1, h2⟩ := h.arr ht hc
  rw [hs] at h1
  obtain ⟨xs, h4, h5, h6⟩ := list_map1 (.int k) (fun i => (Lit.int k i).wf = true) (cs.map fun c => [c]) fun l hl => by
    obtain ⟨c, hc', rfl⟩ := List.mem_map.1 hl
    obtain ⟨i, hi, rfl⟩ := List.getElem_of_mem hc'
    have := h2 i (by omega)
    rw [Nat.mul_one, List.drop_eq_getElem_cons hi, List.take_succ_cons, List.take_zero] at this
    simpa using this.int he
  exact ⟨xs, by rw [← h4]; exact flat1 cs, by rw [h5, List.length_map, h1], h6⟩
end
end Go.Proofs.Ytccppgpedlfjdaa
