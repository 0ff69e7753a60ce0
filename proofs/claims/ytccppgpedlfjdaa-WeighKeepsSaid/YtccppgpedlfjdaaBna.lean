/- Names: sameness and fewness; the walks. -/
import Derived.Test.YtccppgpedlfjdaaWks
import Derived.Test.YtccppgpedlfjdaaWkz
import Derived.Test.YtccppgpedlfjdaaWkt
namespace Go.Proofs.Ytccppgpedlfjdaa
open Go Go.RowKit
theorem u8_ne {a b : UInt8} : ((a.toNat : Int) = b.toNat) ↔ a = b := by
  constructor
  · intro h; exact UInt8.toNat_inj.1 (by omega)
  · rintro rfl; rfl
/-- Texts as cells. -/
def strV (xs : List (List UInt8)) : List Value := xs.map fun l => .string ⟨l.toArray⟩
theorem strV_get {xs : List (List UInt8)} {i : Nat} (h : i < xs.length) : (strV xs)[i]? = some (.string ⟨(xs.getD i []).toArray⟩) := by simp [strV, h, List.getD]
theorem strV_length (xs : List (List UInt8)) : (strV xs).length = xs.length := by simp [strV]
theorem strV_one (xs : List (List UInt8)) : ∀ c ∈ strV xs, c.oneCell' = true := by
  intro c hc
  obtain ⟨x, _, rfl⟩ := List.mem_map.1 hc
  rfl
/-- A name of few and short texts. -/
def Fit (xs : List (List UInt8)) : Prop := xs.length ≤ 1000 ∧ ∀ l ∈ xs, l.length ≤ 1000
theorem Fit.get {xs : List (List UInt8)} (h : Fit xs) (i : Nat) : (xs.getD i []).length ≤ 1000 := by
  by_cases hi : i < xs.length
  · rw [List.getD_eq_getElem?_getD, List.getElem?_eq_getElem hi]
    exact h.2 _ (List.getElem_mem hi)
  · rw [List.getD_eq_getElem?_getD, List.getElem?_eq_none (by omega)]
    exact Nat.zero_le _
def Upto {α : Type} [Inhabited α] (f : α → α) (l m : List α) (i : Nat) : Prop := ∀ j, j < i → f (l.getD j default) = f (m.getD j default)
theorem Upto.zero {α : Type} [Inhabited α] {f : α → α} {l m : List α} : Upto f l m 0 := fun _ h => absurd h (Nat.not_lt_zero _)
theorem Upto.succ {α : Type} [Inhabited α] {f : α → α} {l m : List α} {i : Nat} (h : Upto f l m i) (he : f (l.getD i default) = f (m.getD i default)) : Upto f l m (i + 1) := fun j hj => by
  rcases Nat.lt_succ_iff_lt_or_eq.1 hj with hj | rfl
  · exact h j hj
  · exact he
theorem Upto.all {α : Type} [Inhabited α] {f : α → α} {l m : List α} (hl : l.length = m.length) (h : Upto f l m l.length) : l.map f = m.map f := by
  apply List.ext_getElem (by simp [hl])
  intro j h1 h2
  simp at h1 h2
  have := h j h1
  simpa [List.getD, h1, h2] using this
theorem Upto.not {α : Type} [Inhabited α] {f : α → α} {l m : List α} {i : Nat} (hl : l.length = m.length) (hi : i < l.length) (h : ¬ f (l.getD i default) = f (m.getD i default)) : l.map f ≠ m.map f := by
  intro e
  apply h
  have := congrArg (fun x => x[i]?) e
  simp [hi, show i < m.length by omega] at this
  simpa [List.getD, hi, show i < m.length by omega] using this
theorem map_ne {α : Type} {f : α → α} {l m : List α} (h : l.length ≠ m.length) : l.map f ≠ m.map f := fun e => h (by simpa using congrArg List.length e)

/-- A name's value. -/
abbrev NameAt (w : World) (v : Value) (xs : List (List UInt8)) : Prop := Sl w 1 v xs.length (strV xs)

theorem sameT_any (xs ys : List (List UInt8)) (v0 v1 : Value) (w : World) (h0 : NameAt w v0 xs) (h1 : NameAt w v1 ys) (hx : xs.length ≤ 9223372036854775807) :
    Ret Try.prog 35 #[v0, v1] w fun v w' => v = .bool (decide (xs = ys)) ∧ Ext w w' := by
  have hE0 := Ext.refl w
  obtain ⟨ao, c, rfl, hl0, hr0, hz0⟩ := h0
  obtain ⟨ao', c', rfl, hl1, hr1, hz1⟩ := h1
  refine Ret.body Try.func35 rfl Try.ntmps35 rfl ?_
  refine Cd.seq ?_
  refine Cd.region ?_
  refine Seg.step rfl rfl (Yd.assign rfl) ?_
  refine Seg.nil ?_
  refine At.then_ ?_
  refine Cd.seq ?_
  refine Cd.seq ?_
  refine Cd.region ?_
  refine Seg.step rfl rfl (Yd.move rfl) ?_
  refine Seg.step rfl rfl (Yd.lenS rfl rfl) ?_
  refine Seg.step rfl rfl (Yd.move rfl) ?_
  refine Seg.step rfl rfl (Yd.lenS rfl rfl) ?_
  refine Seg.step rfl rfl (Yd.neq rfl rfl) ?_
  refine Seg.nil ?_
  refine At.then_ ?_
  refine Cd.condk rfl (fun h17 => ?_) (fun h17 => ?_)
  · refine Cd.seq ?_
    refine Cd.region ?_
    refine Seg.step rfl rfl (Yd.assign rfl) ?_
    refine Seg.nil ?_
    refine At.then_ ?_
    refine Cd.ret ?_
    refine At.then_ret ?_
    exact At.ret Try.results35 (.tmp rfl .nil) ⟨bF (fun e => by have := congrArg List.length e; omega), hE0⟩
  refine Cd.skip ?_
  refine At.then_ ?_
  refine Cd.seq ?_
  refine Cd.seq ?_
  refine Cd.region ?_
  refine Seg.step rfl rfl (Yd.assign rfl) ?_
  refine Seg.nil ?_
  refine At.then_ ?_
  refine Cd.block ?_
  have hlm : xs.length = ys.length := by omega
  refine Cd.loop (σ := Nat) (fun s => [(0, .slice ao xs.length c), (1, .slice ao' ys.length c'), (4, .bool false), (5, .int .i64 s)])
    (fun s w' => s ≤ xs.length ∧ Upto id xs ys s ∧ Ext w w') (fun s => xs.length - s) 0 (.cons rfl (.cons rfl (.cons rfl (.cons rfl (.nil _))))) ⟨Nat.zero_le _, Upto.zero, hE0⟩ ?_
  clear hE0
  intro i w0 ⟨hi, hT, hE0⟩
  by_cases hlt : i < xs.length
  · obtain ⟨a, rfl⟩ : ∃ a, ao = some a := by
      cases ao with
      | none => have := hz0 rfl; omega
      | some a => exact ⟨a, rfl⟩
    obtain ⟨a', rfl⟩ : ∃ a, ao' = some a := by
      cases ao' with
      | none => have := hz1 rfl; omega
      | some a => exact ⟨a, rfl⟩
    have hr0 := hr0 a rfl
    have hr1 := hr1 a' rfl
    refine Cd.seq ?_
    refine Cd.seq ?_
    refine Cd.region ?_
    refine Seg.step rfl rfl (Yd.move rfl) ?_
    refine Seg.step rfl rfl (Yd.move rfl) ?_
    refine Seg.step rfl rfl (Yd.lenS rfl rfl) ?_
    refine Seg.step rfl rfl (Yd.lss rfl rfl) ?_
    refine Seg.nil ?_
    refine At.then_ ?_
    refine Cd.condk rfl (fun h27 => ?_) (fun h27 => ?_)
    · refine Cd.skip ?_
      refine At.then_ ?_
      refine Cd.seq ?_
      refine Cd.block ?_
      refine Cd.seq ?_
      refine Cd.quiet (by kernel_rfl) (by kernel_rfl) ?_
      refine SegQ.step rfl rfl (fun w' hw' => Yd.move rfl) ?_
      refine SegQ.step rfl rfl (fun w' hw' => Yd.move rfl) ?_
      refine SegQ.step rfl rfl (fun w' hw' => Yd.indexAddr1 rfl rfl rfl (NatOf.cast _) (by omega)) ?_
      refine SegQ.step rfl rfl (fun w' hw' => Yd.load1 rfl rfl ((hr0.ext (hE0.trans hw')) _ _ (strV_get hlt))) ?_
      refine SegQ.step rfl rfl (fun w' hw' => Yd.move rfl) ?_
      refine SegQ.step rfl rfl (fun w' hw' => Yd.move rfl) ?_
      refine SegQ.step rfl rfl (fun w' hw' => Yd.indexAddr1 rfl rfl rfl (NatOf.cast _) (by omega)) ?_
      refine SegQ.step rfl rfl (fun w' hw' => Yd.load1 rfl rfl ((hr1.ext (hE0.trans hw')) _ _ (strV_get (hlm ▸ hlt)))) ?_
      refine SegQ.step rfl rfl (fun w' hw' => Yd.neqS rfl rfl) ?_
      refine SegQ.nil fun w44 hE44 => ?_
      replace hE0 := Ext.trans hE0 hE44
      refine At.then_ ?_
      refine Cd.condk rfl (fun h46 => ?_) (fun h46 => ?_)
      · refine Cd.seq ?_
        refine Cd.region ?_
        refine Seg.step rfl rfl (Yd.assign rfl) ?_
        refine Seg.nil ?_
        refine At.then_ ?_
        refine Cd.ret ?_
        refine At.blk_ret ?_
        refine At.then_ret ?_
        refine At.then_ret ?_
        refine At.blk_ret ?_
        refine At.then_ret ?_
        exact At.ret Try.results35 (.tmp rfl .nil) ⟨bF (fun e => Upto.not (f := id) hlm hlt (by assumption) (by rw [e])), hE0⟩
      · refine Cd.skip ?_
        refine At.blk ?_
        refine At.then_ ?_
        refine Cd.region ?_
        refine Seg.step rfl rfl (Yd.move rfl) ?_
        refine Seg.step rfl rfl (Yd.addI rfl rfl (by omega)) ?_
        refine Seg.step rfl rfl (Yd.assign rfl) ?_
        refine Seg.nil ?_
        exact At.round (i + 1) (.cons rfl (.cons rfl (.cons rfl (.cons rfl (.nil _))))) ⟨by omega, hT.succ (Classical.byContradiction fun hne => absurd hne (by assumption)), hE0⟩ (by show _ - _ < _ - _; omega)
    · exfalso; omega
  · obtain rfl : i = xs.length := by omega
    refine Cd.seq ?_
    refine Cd.seq ?_
    refine Cd.region ?_
    refine Seg.step rfl rfl (Yd.move rfl) ?_
    refine Seg.step rfl rfl (Yd.move rfl) ?_
    refine Seg.step rfl rfl (Yd.lenS rfl rfl) ?_
    refine Seg.step rfl rfl (Yd.lss rfl rfl) ?_
    refine Seg.nil ?_
    refine At.then_ ?_
    refine Cd.condk rfl (fun h27 => ?_) (fun h27 => ?_)
    · exfalso; omega
    · refine Cd.exit ?_
      refine At.then_exit ?_
      refine At.then_exit ?_
      refine At.blk_same ?_
      refine At.then_ ?_
      refine Cd.seq ?_
      refine Cd.region ?_
      refine Seg.step rfl rfl (Yd.assign rfl) ?_
      refine Seg.nil ?_
      refine At.then_ ?_
      refine Cd.ret ?_
      exact At.ret Try.results35 (.tmp rfl .nil) ⟨bT (by simpa using hT.all hlm), hE0⟩
/-- The size of a name's first i labels. -/
def szTo (xs : List (List UInt8)) (i : Nat) : Nat := ((xs.take i).map fun l => l.length + 1).sum
theorem szTo_succ {xs : List (List UInt8)} {i : Nat} (h : i < xs.length) : szTo xs (i + 1) = szTo xs i + ((xs.getD i []).length + 1) := by
  unfold szTo
  rw [List.take_succ_eq_append_getElem h, List.getD_eq_getElem?_getD, List.getElem?_eq_getElem h]
  simp only [List.map_append, List.sum_append, List.map_cons, List.map_nil, List.sum_cons, List.sum_nil, Option.getD_some, Nat.add_zero]
theorem fit_of_size {xs : List (List UInt8)} (h : szTo xs xs.length ≤ 400) : Fit xs := by
  unfold szTo at h
  rw [List.take_length] at h
  have key : ∀ ys : List (List UInt8), ys.length ≤ (ys.map fun l => l.length + 1).sum ∧ ∀ l ∈ ys, l.length ≤ (ys.map fun l => l.length + 1).sum := by
    intro ys
    induction ys with
    | nil => simp
    | cons y ys ih =>
      simp only [List.map_cons, List.sum_cons, List.length_cons, List.mem_cons]
      refine ⟨by omega, fun l hl => ?_⟩
      rcases hl with rfl | hl
      · omega
      · have := ih.2 l hl; omega
  exact ⟨by have := (key xs).1; omega, fun l hl => by have := (key xs).2 l hl; omega⟩
/-- No text of the name is longer than a machine's memory. -/
def Held (xs : List (List UInt8)) : Prop := xs.length ≤ 140737488351232 ∧ ∀ l ∈ xs, l.length ≤ 140737488351232
theorem Held.get {xs : List (List UInt8)} (h : Held xs) (i : Nat) : (xs.getD i []).length ≤ 140737488351232 := by
  by_cases hi : i < xs.length
  · rw [List.getD_eq_getElem?_getD, List.getElem?_eq_getElem hi]
    exact h.2 _ (List.getElem_mem hi)
  · rw [List.getD_eq_getElem?_getD, List.getElem?_eq_none (by omega)]
    exact Nat.zero_le _
theorem few_any (xs : List (List UInt8)) (v0 : Value) (w : World) (h0 : NameAt w v0 xs) (hx : Held xs) :
    Ret Try.prog 30 #[v0] w fun v w' => (∃ b : Bool, v = .bool b ∧ (b = true → Fit xs)) ∧ Ext w w' := by
  have hE0 := Ext.refl w
  obtain ⟨ao, c, rfl, hl0, hr0, hz0⟩ := h0
  have hx1 := hx.1
  refine Ret.body Try.func30 rfl Try.ntmps30 rfl ?_
  refine Cd.seq ?_
  refine Cd.region ?_
  refine Seg.step rfl rfl (Yd.assign rfl) ?_
  refine Seg.nil ?_
  refine At.then_ ?_
  refine Cd.seq ?_
  refine Cd.region ?_
  refine Seg.step rfl rfl (Yd.assign rfl) ?_
  refine Seg.nil ?_
  refine At.then_ ?_
  refine Cd.seq ?_
  refine Cd.seq ?_
  refine Cd.region ?_
  refine Seg.step rfl rfl (Yd.assign rfl) ?_
  refine Seg.nil ?_
  refine At.then_ ?_
  refine Cd.block ?_
  refine Cd.loop (σ := Nat × Int) (fun s => [(0, .slice ao xs.length c), (2, .bool false), (3, .int .i64 s.2), (4, .int .i64 s.1)])
    (fun s w' => s.1 ≤ xs.length ∧ s.2 = szTo xs s.1 ∧ szTo xs s.1 ≤ 400 ∧ Ext w w') (fun s => xs.length - s.1) (0, 0) (.cons rfl (.cons rfl (.cons rfl (.cons rfl (.nil _))))) ⟨Nat.zero_le _, rfl, Nat.zero_le _, hE0⟩ ?_
  clear hE0
  rintro ⟨i, z⟩ w0 ⟨hi, hz, hT, hE0⟩
  simp only at hi hz hT ⊢
  by_cases hlt : i < xs.length
  · obtain ⟨a, rfl⟩ : ∃ a, ao = some a := by
      cases ao with
      | none => have := hz0 rfl; omega
      | some a => exact ⟨a, rfl⟩
    have hr0 := hr0 a rfl
    have hg := hx.get i
    have hs := szTo_succ hlt
    refine Cd.seq ?_
    refine Cd.seq ?_
    refine Cd.region ?_
    refine Seg.step rfl rfl (Yd.move rfl) ?_
    refine Seg.step rfl rfl (Yd.move rfl) ?_
    refine Seg.step rfl rfl (Yd.lenS rfl rfl) ?_
    refine Seg.step rfl rfl (Yd.lss rfl rfl) ?_
    refine Seg.nil ?_
    refine At.then_ ?_
    refine Cd.condk rfl (fun h11 => ?_) (fun h11 => ?_)
    · refine Cd.skip ?_
      refine At.then_ ?_
      refine Cd.seq ?_
      refine Cd.block ?_
      refine Cd.seq ?_
      refine Cd.region ?_
      refine Seg.step rfl rfl (Yd.move rfl) ?_
      refine Seg.step rfl rfl (Yd.move rfl) ?_
      refine Seg.step rfl rfl (Yd.move rfl) ?_
      refine Seg.step rfl rfl (Yd.indexAddr1 rfl rfl rfl (NatOf.cast _) (by omega)) ?_
      refine Seg.step rfl rfl (Yd.load1 rfl rfl ((hr0.ext hE0) _ _ (strV_get hlt))) ?_
      refine Seg.step rfl rfl (Yd.lenStr rfl rfl) ?_
      refine Seg.step rfl rfl (Yd.addI rfl rfl (by omega)) ?_
      refine Seg.step rfl rfl (Yd.addI rfl rfl (by omega)) ?_
      refine Seg.step rfl rfl (Yd.assign rfl) ?_
      refine Seg.nil ?_
      refine At.then_ ?_
      refine Cd.seq ?_
      refine Cd.region ?_
      refine Seg.step rfl rfl (Yd.move rfl) ?_
      refine Seg.step rfl rfl (Yd.gtr rfl rfl) ?_
      refine Seg.nil ?_
      refine At.then_ ?_
      refine Cd.condk rfl (fun h36 => ?_) (fun h36 => ?_)
      · refine Cd.seq ?_
        refine Cd.region ?_
        refine Seg.step rfl rfl (Yd.assign rfl) ?_
        refine Seg.nil ?_
        refine At.then_ ?_
        refine Cd.ret ?_
        refine At.blk_ret ?_
        refine At.then_ret ?_
        refine At.then_ret ?_
        refine At.blk_ret ?_
        refine At.then_ret ?_
        exact At.ret Try.results30 (.tmp rfl .nil) ⟨⟨false, rfl, fun h => (by cases h)⟩, hE0⟩
      · refine Cd.skip ?_
        refine At.blk ?_
        refine At.then_ ?_
        refine Cd.region ?_
        refine Seg.step rfl rfl (Yd.move rfl) ?_
        refine Seg.step rfl rfl (Yd.addI rfl rfl (by omega)) ?_
        refine Seg.step rfl rfl (Yd.assign rfl) ?_
        refine Seg.nil ?_
        exact At.round (i + 1, _) (.cons rfl (.cons rfl (.cons rfl (.cons rfl (.nil _))))) ⟨by show _ + _ ≤ _; omega, by show _ = ((szTo xs (i + 1) : Nat) : Int); omega, by show szTo xs (i + 1) ≤ 400; omega, hE0⟩ (by show _ - _ < _ - _; omega)
    · exfalso; omega
  · obtain rfl : i = xs.length := by omega
    refine Cd.seq ?_
    refine Cd.seq ?_
    refine Cd.region ?_
    refine Seg.step rfl rfl (Yd.move rfl) ?_
    refine Seg.step rfl rfl (Yd.move rfl) ?_
    refine Seg.step rfl rfl (Yd.lenS rfl rfl) ?_
    refine Seg.step rfl rfl (Yd.lss rfl rfl) ?_
    refine Seg.nil ?_
    refine At.then_ ?_
    refine Cd.condk rfl (fun h11 => ?_) (fun h11 => ?_)
    · exfalso; omega
    · refine Cd.exit ?_
      refine At.then_exit ?_
      refine At.then_exit ?_
      refine At.blk_same ?_
      refine At.then_ ?_
      refine Cd.seq ?_
      refine Cd.region ?_
      refine Seg.step rfl rfl (Yd.assign rfl) ?_
      refine Seg.nil ?_
      refine At.then_ ?_
      refine Cd.ret ?_
      exact At.ret Try.results30 (.tmp rfl .nil) ⟨⟨true, rfl, fun _ => fit_of_size hT⟩, hE0⟩
theorem exact_any (xs ys : List (List UInt8)) (v0 v1 : Value) (w : World) (h0 : NameAt w v0 xs) (h1 : NameAt w v1 ys) (hx : xs.length ≤ 9223372036854775807) :
    Ret Try.prog 28 #[v0, v1] w fun v w' => v = .bool (decide (xs = ys)) ∧ Ext w w' := by
  have hE0 := Ext.refl w
  refine Ret.body Try.func28 rfl Try.ntmps28 rfl ?_
  refine Cd.seq ?_
  refine Cd.region ?_
  refine Seg.step rfl rfl (Yd.assign rfl) ?_
  refine Seg.nil ?_
  refine At.then_ ?_
  refine Cd.seq ?_
  refine Cd.region ?_
  refine Seg.step rfl rfl (Yd.move rfl) ?_
  refine Seg.step rfl rfl (Yd.move rfl) ?_
  (refine Seg.call rfl rfl (own_of rfl) rfl (sameT_any xs ys v0 v1 _ h0 h1 hx) ?_; rintro _ w11 ⟨rfl, hE11⟩)
  replace hE0 := Ext.trans hE0 hE11
  refine Seg.step rfl rfl (Yd.assign rfl) ?_
  refine Seg.nil ?_
  refine At.then_ ?_
  refine Cd.ret ?_
  exact At.ret Try.results28 (.tmp rfl .nil) ⟨rfl, hE0⟩
end Go.Proofs.Ytccppgpedlfjdaa
