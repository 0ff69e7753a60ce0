/- The step from a walk to the row: a law that returns true and leaves all that lay there. Arguments that came in, opened: from the form's reading ('trod') to cells. Arguments that came in, opened, with the bounds of their sizes. -/
import Derived.Test.YtahpiaaffeiadaaGreatDoorWkc
import Derived.ProofKit
import Derived.Test.YtahpiaaffeiadaaGreatDoorWkf
import Derived.Deep.Slices
import Derived.OpenShut
import Derived.SizedLaws
namespace Go.Proofs.YtahpiaaffeiadaaGreatDoor
open Go Go.RowKit Go.ChangeShapes Go.WideShapes Go.ChangeAt

theorem bF {p : Prop} [Decidable p] (h : ¬ p) : Value.bool false = .bool (decide p) := by rw [decide_eq_false h]
theorem bT {p : Prop} [Decidable p] (h : p) : Value.bool true = .bool (decide p) := by rw [decide_eq_true h]
section
variable {H : Type} {enc : TypeId × Value → H} {P : Program} {W W' : World}

theorem args_stay (hl : laidOutB P = true) (hE : Ext W W') : ∀ {ts : List TypeId} {vs : List Value} {ds : List (DataW H)} {ps : List MemPlace},
    (∀ t ∈ ts, P.readableRec t = true ∧ t < P.types.size) → DataW.TrodAll enc P W 0 (fun _ => true) true ts vs ds ps → (∀ x ∈ ps, x.block < W.heap.size) →
    DataW.TrodAll enc P W' 0 (fun b => decide (b < W.heap.size)) true ts vs ds ps
  | [], [], [], ps, _, h, _ => h
  | t :: ts, v :: vs, d :: ds, ps, hr, h, hlt => by
    obtain ⟨p, q, h1, h2, rfl⟩ := h
    exact ⟨p, q, Below.trod hl (hr t (by simp)).1 (hr t (by simp)).2 h1 hE (fun x hx => hlt x (by simp [hx])),
      args_stay hl hE (fun t ht => hr t (by simp [ht])) h2 (fun x hx => hlt x (by simp [hx])), rfl⟩
  | [], [], _ :: _, _, _, h, _ => h.elim
  | [], _ :: _, _, _, _, h, _ => h.elim
  | _ :: _, [], _, _, _, h, _ => h.elim
  | _ :: _, _ :: _, [], _, _, h, _ => h.elim

theorem law_post {f : Func} {s : ChangeSpec} {args : Array Value} {ds gs : List (DataW H)} {before : List MemPlace} {tb : TypeId}
    (hl : laidOutB P = true) (hr : ∀ t ∈ f.params.toList, P.readableRec t = true ∧ t < P.types.size) (hres : f.resultTypes = #[tb]) (hb : P.underlying tb = some .bool)
    (hvars : s.vars = []) (hW : DataW.Whole enc P f.params.toList s.vars false W args.toList ds gs before) (hs : s.fn H ds = { results := [.lit (.bool true)], args := ds }) (hE : Ext W W') :
    s.post enc P f false true false false W args (.bool true) W' := by
  have hW' := hW
  obtain ⟨p, q, hA, hV, rfl, hfz, hnd⟩ := hW
  rw [hvars] at hV
  obtain ⟨rfl, rfl⟩ := trodVars_none hV
  simp only [List.append_nil] at *
  refine ⟨ds, [], p, [], p, [], hW', ?_, ?_, ?_, Below.frame hE _, fun h => by cases h⟩
  · simp only [List.append_nil, hs, hres]
    exact trodAll_mk1 (shut_bool hb true)
  · simp only [List.append_nil, hs]
    exact args_stay hl hE hr hA (fun x hx => hW'.lt x hx)
  · simp only [List.append_nil, hs, hvars]
    exact rfl
end
end Go.Proofs.YtahpiaaffeiadaaGreatDoor
namespace Go.Proofs.YtahpiaaffeiadaaGreatDoor
open Go Go.RowKit Go.ChangeShapes Go.WideShapes Go.ChangeAt

theorem len_succ {α : Type} {l : List α} {n : Nat} (h : l.length = n + 1) : ∃ a r, l = a :: r ∧ r.length = n := by
  cases l with
  | nil => cases h
  | cons a r => exact ⟨a, r, rfl, by simpa using h⟩

section
variable {H : Type} {enc : TypeId × Value → H} {P : Program} {w : World} {base : Nat} {spare : Nat → Bool} {held : Bool} {t : TypeId} {fuel : Nat} {cs : List Value} {x : DataW H × List MemPlace}

theorem cellsOf_run {T : TypeId} {s : Nat} (h : ∀ w, (sizeOf T).run P w = .ok s w) : P.cellsOf T = s := by
  have h' := h default
  unfold sizeOf typeInfo at h'
  rw [Sem.run_bind, Sem.run_bind, run_program] at h'
  simp only [Result.andThen_ok] at h'
  unfold Program.cellsOf
  cases hi : P.info? T with
  | none => rw [hi] at h'; simp at h'
  | some i => rw [hi] at h'; simpa using h'

/-- The reading of each field. -/
theorem fld_trod {fs : Array Field} {r : List (Nat × Nat)} (ht : P.underlying t = some (.struct fs)) (hf : FldsOk P fs.toList r) (h : DataW.trod enc P w base spare held fuel t cs = some x) :
    cs.length = P.cellsOf t ∧ ∀ (i o s : Nat) (f : Field), r[i]? = some (o, s) → fs[i]? = some f → ∃ n y, DataW.trod enc P w base spare held n f.type ((cs.drop o).take s) = some y := by
  obtain ⟨xs, n, _, _, hlen, hxs, hall⟩ := DataW.trod_struct ht h
  refine ⟨hlen, fun i o s f hi hfi => ?_⟩
  obtain ⟨f', h1, h2, h3⟩ := hf.get hi
  have hff : f' = f := by
    have : fs.toList[i]? = some f := by simpa using hfi
    rw [this] at h1; exact (Option.some.inj h1).symm
  subst hff
  have h4 := hall i f' hfi
  rw [cellsOf_run h3, h2] at h4
  have hlt : i < xs.length := by
    rw [hxs]
    rcases Nat.lt_or_ge i fs.size with h' | h'
    · exact h'
    · simp [Array.getElem?_eq_none h'] at hfi
  exact ⟨n, xs[i], by rw [h4, List.getElem?_eq_getElem hlt]⟩

theorem int_trod {k : IntKind} (ht : P.underlying t = some (.int k)) (h : DataW.trod enc P w base spare held fuel t cs = some x) : ∃ i, cs = [.int k i] ∧ (Lit.int k i).wf = true := by
  obtain ⟨i, h1, h2⟩ := DataW.trod_int ht h
  exact ⟨i, h1, h2.2⟩
theorem bool_trod (ht : P.underlying t = some .bool) (h : DataW.trod enc P w base spare held fuel t cs = some x) : ∃ b, cs = [.bool b] := by
  obtain ⟨b, h1, _⟩ := DataW.trod_bool ht h
  exact ⟨b, h1⟩
theorem str_trod (ht : P.underlying t = some .string) (h : DataW.trod enc P w base spare held fuel t cs = some x) : ∃ l : List UInt8, cs = [.string ⟨l.toArray⟩] ∧ l.length ≤ maxLen := by
  obtain ⟨s, h1, h2⟩ := DataW.trod_string ht h
  exact ⟨s.data.toList, by simpa using h1, by have := h2.2; simpa only [Array.length_toList, ByteArray.size] using this⟩

theorem Row.app {p : Addr} {as bs : List Value} (h1 : Row w p as) (h2 : Row w (p.add as.length) bs) : Row w p (as ++ bs) := fun j v hj => by
  by_cases hlt : j < as.length
  · exact h1 j v (by rwa [List.getElem?_append_left hlt] at hj)
  · have := h2 (j - as.length) v (by rwa [List.getElem?_append_right (by omega)] at hj)
    rw [Deep.add_add] at this
    rwa [show as.length + (j - as.length) = j by omega] at this
theorem Row.many {a : Addr} {k : Nat} (C : Nat → List Value) : ∀ n, (∀ i, i < n → (C i).length = k ∧ Row w (a.add (i * k)) (C i)) → Row w a ((List.range n).map C).flatten ∧ ((List.range n).map C).flatten.length = n * k
  | 0, _ => ⟨fun j v hj => by simp at hj, by simp⟩
  | n + 1, h => by
    obtain ⟨h1, h2⟩ := Row.many C n fun i hi => h i (by omega)
    obtain ⟨h3, h4⟩ := h n (by omega)
    rw [List.range_succ, List.map_append, List.flatten_append]
    simp only [List.map_cons, List.map_nil, List.flatten_cons, List.flatten_nil, List.append_nil]
    exact ⟨h1.app (by rw [h2]; exact h4), by rw [List.length_append, h2, h3, Nat.succ_mul]⟩
theorem Row.ofCells {a : Addr} {k : Nat} {cs : List Value} (h : w.cells? base a k = some cs) : Row w a cs := fun j v hj => by
  obtain ⟨_, h1, h2⟩ := World.cells?_some h
  rw [h2 j (by rw [← h1]; exact (List.getElem?_eq_some_iff.1 hj).1)]
  exact hj

/-- A slice, opened: its elements' cells, each with its reading. -/
theorem slice_open {t e : TypeId} {k : Nat} (ht : P.underlying t = some (.slice e)) (hk : P.cellsOf e = k) (h : DataW.trod enc P w base spare held fuel t cs = some x) :
    ∃ (v : Value) (L : List (List Value)), cs = [v] ∧ Sl w k v L.length L.flatten ∧ L.length ≤ maxLen ∧ ∀ l ∈ L, l.length = k ∧ ∃ n y, DataW.trod enc P w base spare held n e l = some y := by
  rcases Deep.open_slice ht h with ⟨rfl, _⟩ | ⟨a, len, cap, m, n, D, Pl, rfl, _, hl, hm, hmm, rfl, hx⟩
  · exact ⟨_, [], rfl, ⟨none, 0, rfl, by simp, fun _ h => (by cases h), fun _ => rfl⟩, Nat.zero_le _, fun _ h => (by cases h)⟩
  · rw [hk] at hx
    have hle : len ≤ m := by rw [hmm]; split <;> omega
    obtain ⟨C, hC⟩ := Deep.choose_lt (α := List Value) (p := fun i cs' => w.cells? base (a.add (i * k)) k = some cs' ∧ DataW.trod enc P w base spare held n e cs' = some (D i, Pl i)) hx
    obtain ⟨h1, h2⟩ := Row.many (w := w) (a := a) (k := k) C len fun i hi => ⟨(World.cells?_some (hC i (by omega)).1).2.1, Row.ofCells (hC i (by omega)).1⟩
    refine ⟨_, (List.range len).map C, rfl, ⟨some a, cap, by simp, by rw [h2]; simp, fun b hb => (by cases hb; exact h1), fun h => (by cases h)⟩, by simp; omega, fun l hl' => ?_⟩
    obtain ⟨i, hi, rfl⟩ := List.mem_map.1 hl'
    have hi' : i < len := List.mem_range.1 hi
    exact ⟨(World.cells?_some (hC i (by omega)).1).2.1, n, _, (hC i (by omega)).2⟩

/-- Elements of one cell each, of a form f. -/
theorem list_map1 {α : Type} (f : α → Value) (q : α → Prop) : ∀ (L : List (List Value)), (∀ l ∈ L, ∃ a, l = [f a] ∧ q a) → ∃ xs : List α, L.flatten = xs.map f ∧ xs.length = L.length ∧ ∀ a ∈ xs, q a
  | [], _ => ⟨[], rfl, rfl, fun _ h => by cases h⟩
  | l :: L, h => by
    obtain ⟨a, rfl, ha⟩ := h l (by simp)
    obtain ⟨xs, h1, h2, h3⟩ := list_map1 f q L fun l hl => h l (by simp [hl])
    exact ⟨a :: xs, by simp [h1], by simp [h2], fun b hb => by
      rcases List.mem_cons.1 hb with rfl | hb
      · exact ha
      · exact h3 b hb⟩

theorem ints_open {t e : TypeId} {k : IntKind} (ht : P.underlying t = some (.slice e)) (he : P.underlying e = some (.int k)) (hc : P.cellsOf e = 1) (h : DataW.trod enc P w base spare held fuel t cs = some x) :
    ∃ (v : Value) (xs : List Int), cs = [v] ∧ Sl w 1 v xs.length (xs.map (.int k)) ∧ xs.length ≤ maxLen ∧ ∀ i ∈ xs, (Lit.int k i).wf = true := by
  obtain ⟨v, L, rfl, h1, h2, h3⟩ := slice_open ht hc h
  obtain ⟨xs, h4, h5, h6⟩ := list_map1 (.int k) (fun i => (Lit.int k i).wf = true) L fun l hl => by
    obtain ⟨_, n, y, hy⟩ := h3 l hl
    exact int_trod he hy
  exact ⟨v, xs, rfl, by rw [h5, ← h4]; exact h1, by omega, h6⟩
theorem strs_open {t e : TypeId} (ht : P.underlying t = some (.slice e)) (he : P.underlying e = some .string) (hc : P.cellsOf e = 1) (h : DataW.trod enc P w base spare held fuel t cs = some x) :
    ∃ (v : Value) (xs : List (List UInt8)), cs = [v] ∧ Sl w 1 v xs.length (xs.map fun l => .string ⟨l.toArray⟩) ∧ xs.length ≤ maxLen ∧ ∀ l ∈ xs, l.length ≤ maxLen := by
  obtain ⟨v, L, rfl, h1, h2, h3⟩ := slice_open ht hc h
  obtain ⟨xs, h4, h5, h6⟩ := list_map1 (fun l : List UInt8 => Value.string ⟨l.toArray⟩) (fun l => l.length ≤ maxLen) L fun l hl => by
    obtain ⟨_, n, y, hy⟩ := h3 l hl
    exact str_trod he hy
  exact ⟨v, xs, rfl, by rw [h5, ← h4]; exact h1, by omega, h6⟩
end
end Go.Proofs.YtahpiaaffeiadaaGreatDoor
namespace Go.Proofs.YtahpiaaffeiadaaGreatDoor
open Go Go.RowKit Go.ChangeShapes Go.WideShapes Go.ChangeAt
section
variable {H : Type} {enc : TypeId × Value → H} {P : Program} {w : World} {base : Nat}
/-- These cells read as a value of type t, each part of a size that a machine has. -/
def Rd (enc : TypeId × Value → H) (P : Program) (w : World) (base : Nat) (t : TypeId) (cs : List Value) : Prop :=
  ∃ (spare : Nat → Bool) (held : Bool) (fuel : Nat) (y : DataW H × List MemPlace), DataW.trod enc P w base spare held fuel t cs = some y ∧ ∀ n ∈ y.1.weights P t, n ≤ 140737488351232
theorem Rd.arg {spare : Nat → Bool} {held : Bool} {ts : List TypeId} {ds : List (DataW H)} (hz : (DataW.weightsEach P ts ds).all (· ≤ reachBytes) = true) (j : Nat) {t : TypeId} {d : DataW H} {v : Value} {p : List MemPlace} (ht : ts[j]? = some t) (hd : ds[j]? = some d)
    (h : DataW.Trod enc P w base spare held t v d p) : Rd enc P w base t v.cells.toList := by
  obtain ⟨fuel, hf⟩ := h
  exact ⟨_, _, fuel, _, hf, fun n hn => by
    have := List.all_eq_true.1 hz _ (DataW.weights_mem_each ht hd n hn)
    have h2 : n ≤ reachBytes := by simpa using this
    have h3 : reachBytes = 140737488351232 := by decide
    omega⟩
variable {t : TypeId} {cs : List Value}
theorem Rd.int {k : IntKind} (h : Rd enc P w base t cs) (ht : P.underlying t = some (.int k)) : ∃ i, cs = [.int k i] ∧ (Lit.int k i).wf = true := by
  obtain ⟨_, _, _, _, h, _⟩ := h
  exact int_trod ht h
theorem Rd.bool (h : Rd enc P w base t cs) (ht : P.underlying t = some .bool) : ∃ b, cs = [.bool b] := by
  obtain ⟨_, _, _, _, h, _⟩ := h
  exact bool_trod ht h
theorem Rd.str (h : Rd enc P w base t cs) (ht : P.underlying t = some .string) : ∃ l : List UInt8, cs = [.string ⟨l.toArray⟩] ∧ l.length ≤ 140737488351232 := by
  obtain ⟨_, _, _, y, h, hn⟩ := h
  obtain ⟨s, h1, rfl, _⟩ := DataW.trod_string ht h
  refine ⟨s.data.toList, by simpa using h1, hn _ ?_⟩
  simp [DataW.weights]
theorem Rd.fld {fs : Array Field} {r : List (Nat × Nat)} (h : Rd enc P w base t cs) (ht : P.underlying t = some (.struct fs)) (hf : FldsOk P fs.toList r) :
    cs.length = P.cellsOf t ∧ ∀ (i o s : Nat) (f : Field), r[i]? = some (o, s) → fs[i]? = some f → Rd enc P w base f.type ((cs.drop o).take s) := by
  obtain ⟨sp, hl, fu, y, h, hn⟩ := h
  obtain ⟨xs, n, _, rfl, hlen, hxs, hall⟩ := DataW.trod_struct ht h
  refine ⟨hlen, fun i o s f hi hfi => ?_⟩
  obtain ⟨f', h1, h2, h3⟩ := hf.get hi
  have hff : f' = f := by
    have : fs.toList[i]? = some f := by simpa using hfi
    rw [this] at h1; exact (Option.some.inj h1).symm
  subst hff
  have h4 := hall i f' hfi
  rw [cellsOf_run h3, h2] at h4
  have hlt : i < xs.length := by
    rw [hxs]
    rcases Nat.lt_or_ge i fs.size with h' | h'
    · exact h'
    · simp [Array.getElem?_eq_none h'] at hfi
  refine ⟨sp, hl, n, xs[i], by rw [h4, List.getElem?_eq_getElem hlt], fun m hm => hn m ?_⟩
  simp only [DataW.weights, ht]
  exact DataW.weights_mem_each (j := i) (t := f'.type) (d := xs[i].1) (by simp [hfi]) (by simp [hlt]) m hm
/-- The same by the table of types. -/
theorem Rd.fldT [Tys P] {fs : Array Field} {p : Nat × Nat} {r : List (Nat × Nat)} (h : Rd enc P w base t cs) (ht : P.underlying t = some (.struct fs)) (hf : fldsOf P t = some (p :: r)) :
    cs.length = P.cellsOf t ∧ ∀ (i o s : Nat) (f : Field), (p :: r)[i]? = some (o, s) → fs[i]? = some f → Rd enc P w base f.type ((cs.drop o).take s) := by
  obtain ⟨fs', h1, h2⟩ := und_flds hf (by simp)
  rw [ht] at h1
  cases h1
  exact h.fld ht h2
theorem one_eq {a b : Value} (h : [a] = [b]) : a = b := by cases h; rfl
theorem weights_mem_all {e : TypeId} : ∀ {ds : List (DataW H)} {d : DataW H}, d ∈ ds → ∀ n ∈ d.weights P e, n ∈ DataW.weightsAll P e ds
  | d0 :: ds, d, hd, n, hn => by
    simp only [DataW.weightsAll, List.mem_append]
    rcases List.mem_cons.1 hd with rfl | hd
    · exact Or.inl hn
    · exact Or.inr (weights_mem_all hd n hn)
theorem Rd.arr {m e k : Nat} (h : Rd enc P w base t cs) (ht : P.underlying t = some (.array m e)) (hk : P.cellsOf e = k) : cs.length = P.cellsOf t ∧ ∀ i, i < m → Rd enc P w base e ((cs.drop (i * k)).take k) := by
  obtain ⟨sp, hl, fu, y, h, hn⟩ := h
  obtain ⟨xs, n, _, rfl, hlen, hxs, hall⟩ := DataW.trod_array ht h
  refine ⟨hlen, fun i hi => ?_⟩
  have h4 := hall i hi
  rw [hk] at h4
  have hlt : i < xs.length := by omega
  refine ⟨sp, hl, n, xs[i], by rw [h4, List.getElem?_eq_getElem hlt], fun m hm => hn m ?_⟩
  simp only [DataW.weights, ht]
  exact weights_mem_all (d := xs[i].1) (List.mem_map.2 ⟨xs[i], List.getElem_mem hlt, rfl⟩) m hm
/-- A slice, opened: its elements' cells, each with its reading. -/
theorem Rd.sl {e : TypeId} {k : Nat} (h : Rd enc P w base t cs) (ht : P.underlying t = some (.slice e)) (hk : P.cellsOf e = k) :
    ∃ (v : Value) (L : List (List Value)), cs = [v] ∧ Sl w k v L.length L.flatten ∧ L.length ≤ maxLen ∧ L.length * P.bytesOf e ≤ 140737488351232 ∧ ∀ l ∈ L, l.length = k ∧ Rd enc P w base e l := by
  obtain ⟨sp, hl, fu, y, h, hn⟩ := h
  rcases Deep.open_slice ht h with ⟨rfl, _⟩ | ⟨a, len, cap, m, n, D, Pl, rfl, _, hl, hm, hmm, rfl, hx⟩
  · exact ⟨_, [], rfl, ⟨none, 0, rfl, by simp, fun _ h => (by cases h), fun _ => rfl⟩, Nat.zero_le _, by simp, fun _ h => (by cases h)⟩
  · rw [hk] at hx
    have hle : len ≤ m := by rw [hmm]; split <;> omega
    obtain ⟨C, hC⟩ := Deep.choose_lt (α := List Value) (p := fun i cs' => w.cells? base (a.add (i * k)) k = some cs' ∧ DataW.trod enc P w base sp _ n e cs' = some (D i, Pl i)) hx
    obtain ⟨h1, h2⟩ := Row.many (w := w) (a := a) (k := k) C len fun i hi => ⟨(World.cells?_some (hC i (by omega)).1).2.1, Row.ofCells (hC i (by omega)).1⟩
    have hw : (len + (m - len)) * P.bytesOf e ≤ 140737488351232 := hn _ (by simp [DataW.weights, ht])
    refine ⟨_, (List.range len).map C, rfl, ⟨some a, cap, by simp, by rw [h2]; simp, fun b hb => (by cases hb; exact h1), fun h => (by cases h)⟩, by simp; omega, ?_, fun l hl' => ?_⟩
    · rw [List.length_map, List.length_range]
      exact Nat.le_trans (Nat.mul_le_mul_right _ (by omega)) hw
    · obtain ⟨i, hi, rfl⟩ := List.mem_map.1 hl'
      have hi' : i < len := List.mem_range.1 hi
      refine ⟨(World.cells?_some (hC i (by omega)).1).2.1, sp, _, n, _, (hC i (by omega)).2, fun q hq => hn q ?_⟩
      simp only [DataW.weights, ht, List.mem_cons, List.mem_append]
      exact Or.inr (Or.inl (weights_mem_all (List.mem_map.2 ⟨i, hi, rfl⟩) q hq))
/-- A slice that came in is no longer than its room. -/
theorem Rd.cap {e : TypeId} {v : Value} (h : Rd enc P w base t [v]) (ht : P.underlying t = some (.slice e)) : ∃ ao m c, v = .slice ao m c ∧ m ≤ c := by
  obtain ⟨sp, hl, fu, y, h, hn⟩ := h
  rcases Deep.open_slice ht h with ⟨he, _⟩ | ⟨a, len, cap, m, n, D, Pl, he, _, hl, hm, hmm, rfl, hx⟩
  · obtain rfl : v = _ := one_eq he
    exact ⟨none, 0, 0, rfl, Nat.le_refl _⟩
  · obtain rfl : v = _ := one_eq he
    exact ⟨_, _, _, rfl, hl⟩
/-- A slice of integers. -/
theorem Rd.ints {e : TypeId} {k : IntKind} (h : Rd enc P w base t cs) (ht : P.underlying t = some (.slice e)) (he : P.underlying e = some (.int k)) (hc : P.cellsOf e = 1) :
    ∃ (v : Value) (xs : List Int), cs = [v] ∧ Sl w 1 v xs.length (xs.map (.int k)) ∧ xs.length * P.bytesOf e ≤ 140737488351232 ∧ ∀ i ∈ xs, (Lit.int k i).wf = true := by
  obtain ⟨v, L, rfl, h1, _, h2, h3⟩ := h.sl ht hc
  obtain ⟨xs, h4, h5, h6⟩ := list_map1 (.int k) (fun i => (Lit.int k i).wf = true) L fun l hl => (h3 l hl).2.int he
  exact ⟨v, xs, rfl, by rw [h5, ← h4]; exact h1, by rw [h5]; exact h2, h6⟩
/-- A slice of texts. -/
theorem Rd.strs {e : TypeId} (h : Rd enc P w base t cs) (ht : P.underlying t = some (.slice e)) (he : P.underlying e = some .string) (hc : P.cellsOf e = 1) :
    ∃ (v : Value) (xs : List (List UInt8)), cs = [v] ∧ Sl w 1 v xs.length (xs.map fun l => .string ⟨l.toArray⟩) ∧ xs.length * P.bytesOf e ≤ 140737488351232 ∧ ∀ l ∈ xs, l.length ≤ 140737488351232 := by
  obtain ⟨v, L, rfl, h1, _, h2, h3⟩ := h.sl ht hc
  obtain ⟨xs, h4, h5, h6⟩ := list_map1 (fun l : List UInt8 => Value.string ⟨l.toArray⟩) (fun l => l.length ≤ 140737488351232) L fun l hl => (h3 l hl).2.str he
  exact ⟨v, xs, rfl, by rw [h5, ← h4]; exact h1, by rw [h5]; exact h2, h6⟩
/-- Elements of k cells each, told by things of a type. -/
theorem list_mapN {α : Type} (f : α → List Value) (q : α → Prop) : ∀ (L : List (List Value)), (∀ l ∈ L, ∃ a, l = f a ∧ q a) → ∃ xs : List α, L.flatten = xs.flatMap f ∧ xs.length = L.length ∧ ∀ a ∈ xs, q a
  | [], _ => ⟨[], rfl, rfl, fun _ h => by cases h⟩
  | l :: L, h => by
    obtain ⟨a, rfl, ha⟩ := h l (by simp)
    obtain ⟨xs, h1, h2, h3⟩ := list_mapN f q L fun l hl => h l (by simp [hl])
    exact ⟨a :: xs, by simp [h1], by simp [h2], fun b hb => by
      rcases List.mem_cons.1 hb with rfl | hb
      · exact ha
      · exact h3 b hb⟩
theorem flat1 : ∀ cs : List Value, cs = (cs.map fun c => [c]).flatten
  | [] => rfl
  | c :: cs => by rw [List.map_cons, List.flatten_cons, ← flat1 cs]; rfl
/-- An array of integers: their cells. -/
theorem Rd.arrInts {m e : Nat} {k : IntKind} (h : Rd enc P w base t cs) (ht : P.underlying t = some (.array m e)) (he : P.underlying e = some (.int k)) (hc : P.cellsOf e = 1) (hs : P.cellsOf t = m) :
    ∃ xs : List Int, cs = xs.map (.int k) ∧ xs.length = m ∧ ∀ i ∈ xs, (Lit.int k i).wf = true := by
  obtain ⟨h1, h2⟩ := h.arr ht hc
  rw [hs] at h1
  obtain ⟨xs, h4, h5, h6⟩ := list_map1 (.int k) (fun i => (Lit.int k i).wf = true) (cs.map fun c => [c]) fun l hl => by
    obtain ⟨c, hc', rfl⟩ := List.mem_map.1 hl
    obtain ⟨i, hi, rfl⟩ := List.getElem_of_mem hc'
    have := h2 i (by omega)
    rw [Nat.mul_one, List.drop_eq_getElem_cons hi, List.take_succ_cons, List.take_zero] at this
    simpa using this.int he
  exact ⟨xs, by rw [← h4]; exact flat1 cs, by rw [h5, List.length_map, h1], h6⟩
end
end Go.Proofs.YtahpiaaffeiadaaGreatDoor
