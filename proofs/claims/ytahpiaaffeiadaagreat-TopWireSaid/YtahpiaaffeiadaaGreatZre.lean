/- Records: their cells, whether they are small, and whether they are the same. -/
import Derived.Test.YtahpiaaffeiadaaGreatWki
import Derived.Test.YtahpiaaffeiadaaGreatWky
import Derived.Test.YtahpiaaffeiadaaGreatEas
namespace Go.Proofs.YtahpiaaffeiadaaGreat
open Go Go.RowKit
/-- A name of few and short texts. -/
def Fit (xs : List (List UInt8)) : Prop := xs.length ≤ 1000 ∧ ∀ l ∈ xs, l.length ≤ 1000
theorem Fit.get {xs : List (List UInt8)} (h : Fit xs) (i : Nat) : (xs.getD i []).length ≤ 1000 := by
  by_cases hi : i < xs.length
  · rw [List.getD_eq_getElem?_getD, List.getElem?_eq_getElem hi]
    exact h.2 _ (List.getElem_mem hi)
  · rw [List.getD_eq_getElem?_getD, List.getElem?_eq_none (by omega)]
    exact Nat.zero_le _
def Upto {α : Type} [Inhabited α] (f : α → α) (l m : List α) (i : Nat) : Prop := ∀ j, j < i → f (l.getD j default) = f (m.getD j default)
theorem Upto.zero {α : Type} [Inhabited α] {f : α → α} {l m : List α} : Upto f l m 0 := fun _ h => absurd h (Nat.not_lt_zero _)
theorem Upto.succ {α : Type} [Inhabited α] {f : α → α} {l m : List α} {i : Nat} (h : Upto f l m i) (he : f (l.getD i default) = f (m.getD i default)) : Upto f l m (i + 1) := fun j hj => by
  rcases Nat.lt_succ_iff_lt_or_eq.1 hj with hj | rfl
  · exact h j hj
  · exact he
theorem Upto.all {α : Type} [Inhabited α] {f : α → α} {l m : List α} (hl : l.length = m.length) (h : Upto f l m l.length) : l.map f = m.map f := by
  apply List.ext_getElem (by simp [hl])
  intro j h1 h2
  simp at h1 h2
  have := h j h1
  simpa [List.getD, h1, h2] using this
theorem Upto.not {α : Type} [Inhabited α] {f : α → α} {l m : List α} {i : Nat} (hl : l.length = m.length) (hi : i < l.length) (h : ¬ f (l.getD i default) = f (m.getD i default)) : l.map f ≠ m.map f := by
  intro e
  apply h
  have := congrArg (fun x => x[i]?) e
  simp [hi, show i < m.length by omega] at this
  simpa [List.getD, hi, show i < m.length by omega] using this
theorem map_ne {α : Type} {f : α → α} {l m : List α} (h : l.length ≠ m.length) : l.map f ≠ m.map f := fun e => h (by simpa using congrArg List.length e)

theorem sameT_any (xs ys : List (List UInt8)) (v0 v1 : Value) (w : World) (h0 : NameAt w v0 xs) (h1 : NameAt w v1 ys) (hx : xs.length ≤ 9223372036854775807) :
    Ret Tryz.prog 74 #[v0, v1] w fun v w' => v = .bool (decide (xs = ys)) ∧ Ext w w' := by
  have hE0 := Ext.refl w
  obtain ⟨ao, c, rfl, hl0, hr0, hz0⟩ := h0
  obtain ⟨ao', c', rfl, hl1, hr1, hz1⟩ := h1
  refine Ret.body Tryz.func74 rfl Tryz.ntmps74 rfl (Cd.seq (Cd.region (Seg.step rfl rfl (Yd.assign rfl) (Seg.nil (At.then_ (Cd.seq (Cd.seq ?_)))))))
  refine Cd.region (Seg.step rfl rfl (Yd.move rfl) (Seg.step rfl rfl (Yd.lenS rfl rfl) (Seg.step rfl rfl (Yd.move rfl) (Seg.step rfl rfl (Yd.lenS rfl rfl) (Seg.step rfl rfl (Yd.neq rfl rfl) (Seg.nil (At.then_ ?_)))))))
  refine Cd.condk rfl (fun h17 => ?_) (fun h17 => ?_)
  · refine Cd.seq (Cd.region (Seg.step rfl rfl (Yd.assign rfl) (Seg.nil (At.then_ (Cd.ret (At.then_ret ?_))))))
    exact At.ret Tryz.results74 (.tmp rfl .nil) ⟨bF (fun e => by have := congrArg List.length e; omega), hE0⟩
  refine Cd.skip (At.then_ (Cd.seq (Cd.seq (Cd.region (Seg.step rfl rfl (Yd.assign rfl) (Seg.nil (At.then_ ?_)))))))
  refine Cd.block ?_
  have hlm : xs.length = ys.length := by omega
  refine Cd.loop (σ := Nat) (fun s => [(0, .slice ao xs.length c), (1, .slice ao' ys.length c'), (4, .bool false), (5, .int .i64 s)])
    (fun s w' => s ≤ xs.length ∧ Upto id xs ys s ∧ Ext w w') (fun s => xs.length - s) 0 (.cons rfl (.cons rfl (.cons rfl (.cons rfl (.nil _))))) ⟨Nat.zero_le _, Upto.zero, hE0⟩ ?_
  clear hE0
  intro i w0 ⟨hi, hT, hE0⟩
  by_cases hlt : i < xs.length
  · obtain ⟨a, rfl⟩ : ∃ a, ao = some a := by
      cases ao with
      | none => have := hz0 rfl; omega
      | some a => exact ⟨a, rfl⟩
    obtain ⟨a', rfl⟩ : ∃ a, ao' = some a := by
      cases ao' with
      | none => have := hz1 rfl; omega
      | some a => exact ⟨a, rfl⟩
    have hr0 := hr0 a rfl
    have hr1 := hr1 a' rfl
    refine Cd.seq (Cd.seq (Cd.region (Seg.step rfl rfl (Yd.move rfl) (Seg.step rfl rfl (Yd.move rfl) (Seg.step rfl rfl (Yd.lenS rfl rfl) (Seg.step rfl rfl (Yd.lss rfl rfl) (Seg.nil ?_)))))))
    refine At.then_ ?_
    refine Cd.condk rfl (fun h27 => ?_) (fun h27 => ?_)
    · refine Cd.skip (At.then_ (Cd.seq (Cd.block (Cd.seq (Cd.quiet (by kernel_rfl) (by kernel_rfl) (SegQ.step rfl rfl (fun w' hw' => Yd.move rfl) (SegQ.step rfl rfl (fun w' hw' => Yd.move rfl) ?_)))))))
      refine SegQ.step rfl rfl (fun w' hw' => Yd.indexAddr1 rfl rfl rfl (NatOf.cast _) (by omega)) (SegQ.step rfl rfl (fun w' hw' => Yd.load1 rfl rfl ((hr0.ext (hE0.trans hw')) _ _ (strV_get hlt))) (SegQ.step rfl rfl (fun w' hw' => Yd.move rfl) (SegQ.step rfl rfl (fun w' hw' => Yd.move rfl) (SegQ.step rfl rfl (fun w' hw' => Yd.indexAddr1 rfl rfl rfl (NatOf.cast _) (by omega)) (SegQ.step rfl rfl (fun w' hw' => Yd.load1 rfl rfl ((hr1.ext (hE0.trans hw')) _ _ (strV_get (hlm ▸ hlt)))) (SegQ.step rfl rfl (fun w' hw' => Yd.neqS rfl rfl) (SegQ.nil fun w44 hE44 => ?_)))))))
      replace hE0 := Ext.trans hE0 hE44
      refine At.then_ ?_
      refine Cd.condk rfl (fun h46 => ?_) (fun h46 => ?_)
      · refine Cd.seq (Cd.region (Seg.step rfl rfl (Yd.assign rfl) (Seg.nil (At.then_ (Cd.ret (At.blk_ret (At.then_ret ?_)))))))
        refine At.then_ret (At.blk_ret (At.then_ret ?_))
        exact At.ret Tryz.results74 (.tmp rfl .nil) ⟨bF (fun e => Upto.not (f := id) hlm hlt (by assumption) (by rw [e])), hE0⟩
      · refine Cd.skip (At.blk (At.then_ (Cd.region (Seg.step rfl rfl (Yd.move rfl) (Seg.step rfl rfl (Yd.addI rfl rfl (by omega)) (Seg.step rfl rfl (Yd.assign rfl) (Seg.nil ?_)))))))
        exact At.round (i + 1) (.cons rfl (.cons rfl (.cons rfl (.cons rfl (.nil _))))) ⟨by omega, hT.succ (Classical.byContradiction fun hne => absurd hne (by assumption)), hE0⟩ (by show _ - _ < _ - _; omega)
    · exfalso; omega
  · obtain rfl : i = xs.length := by omega
    refine Cd.seq (Cd.seq (Cd.region (Seg.step rfl rfl (Yd.move rfl) (Seg.step rfl rfl (Yd.move rfl) (Seg.step rfl rfl (Yd.lenS rfl rfl) (Seg.step rfl rfl (Yd.lss rfl rfl) (Seg.nil ?_)))))))
    refine At.then_ ?_
    refine Cd.condk rfl (fun h27 => ?_) (fun h27 => ?_)
    · exfalso; omega
    · refine Cd.exit (At.then_exit (At.then_exit (At.blk_same (At.then_ (Cd.seq (Cd.region (Seg.step rfl rfl (Yd.assign rfl) ?_)))))))
      refine Seg.nil (At.then_ (Cd.ret ?_))
      exact At.ret Tryz.results74 (.tmp rfl .nil) ⟨bT (by simpa using hT.all hlm), hE0⟩
/-- The size of a name's first i labels. -/
def szTo (xs : List (List UInt8)) (i : Nat) : Nat := ((xs.take i).map fun l => l.length + 1).sum
theorem szTo_succ {xs : List (List UInt8)} {i : Nat} (h : i < xs.length) : szTo xs (i + 1) = szTo xs i + ((xs.getD i []).length + 1) := by
  unfold szTo
  rw [List.take_succ_eq_append_getElem h, List.getD_eq_getElem?_getD, List.getElem?_eq_getElem h]
  simp only [List.map_append, List.sum_append, List.map_cons, List.map_nil, List.sum_cons, List.sum_nil, Option.getD_some, Nat.add_zero]
theorem fit_of_size {xs : List (List UInt8)} (h : szTo xs xs.length ≤ 400) : Fit xs := by
  unfold szTo at h
  rw [List.take_length] at h
  have key : ∀ ys : List (List UInt8), ys.length ≤ (ys.map fun l => l.length + 1).sum ∧ ∀ l ∈ ys, l.length ≤ (ys.map fun l => l.length + 1).sum := by
    intro ys
    induction ys with
    | nil => simp
    | cons y ys ih =>
      simp only [List.map_cons, List.sum_cons, List.length_cons, List.mem_cons]
      refine ⟨by omega, fun l hl => ?_⟩
      rcases hl with rfl | hl
      · omega
      · have := ih.2 l hl; omega
  exact ⟨by have := (key xs).1; omega, fun l hl => by have := (key xs).2 l hl; omega⟩
/-- No text of the name is longer than a machine's memory. -/
def Held (xs : List (List UInt8)) : Prop := xs.length ≤ 140737488351232 ∧ ∀ l ∈ xs, l.length ≤ 140737488351232
theorem Held.get {xs : List (List UInt8)} (h : Held xs) (i : Nat) : (xs.getD i []).length ≤ 140737488351232 := by
  by_cases hi : i < xs.length
  · rw [List.getD_eq_getElem?_getD, List.getElem?_eq_getElem hi]
    exact h.2 _ (List.getElem_mem hi)
  · rw [List.getD_eq_getElem?_getD, List.getElem?_eq_none (by omega)]
    exact Nat.zero_le _
theorem few_any (xs : List (List UInt8)) (v0 : Value) (w : World) (h0 : NameAt w v0 xs) (hx : Held xs) :
    Ret Tryz.prog 13 #[v0] w fun v w' => (∃ b : Bool, v = .bool b ∧ (b = true → Fit xs)) ∧ Ext w w' := by
  have hE0 := Ext.refl w
  obtain ⟨ao, c, rfl, hl0, hr0, hz0⟩ := h0
  have hx1 := hx.1
  refine Ret.body Tryz.func13 rfl Tryz.ntmps13 rfl (Cd.seq (Cd.region (Seg.step rfl rfl (Yd.assign rfl) (Seg.nil (At.then_ (Cd.seq (Cd.region ?_)))))))
  refine Seg.step rfl rfl (Yd.assign rfl) (Seg.nil (At.then_ (Cd.seq (Cd.seq (Cd.region (Seg.step rfl rfl (Yd.assign rfl) (Seg.nil ?_)))))))
  refine At.then_ (Cd.block ?_)
  refine Cd.loop (σ := Nat × Int) (fun s => [(0, .slice ao xs.length c), (2, .bool false), (3, .int .i64 s.2), (4, .int .i64 s.1)])
    (fun s w' => s.1 ≤ xs.length ∧ s.2 = szTo xs s.1 ∧ szTo xs s.1 ≤ 400 ∧ Ext w w') (fun s => xs.length - s.1) (0, 0) (.cons rfl (.cons rfl (.cons rfl (.cons rfl (.nil _))))) ⟨Nat.zero_le _, rfl, Nat.zero_le _, hE0⟩ ?_
  clear hE0
  rintro ⟨i, z⟩ w0 ⟨hi, hz, hT, hE0⟩
  simp only at hi hz hT ⊢
  by_cases hlt : i < xs.length
  · obtain ⟨a, rfl⟩ : ∃ a, ao = some a := by
      cases ao with
      | none => have := hz0 rfl; omega
      | some a => exact ⟨a, rfl⟩
    have hr0 := hr0 a rfl
    have hg := hx.get i
    have hs := szTo_succ hlt
    refine Cd.seq (Cd.seq (Cd.region (Seg.step rfl rfl (Yd.move rfl) (Seg.step rfl rfl (Yd.move rfl) (Seg.step rfl rfl (Yd.lenS rfl rfl) (Seg.step rfl rfl (Yd.lss rfl rfl) (Seg.nil ?_)))))))
    refine At.then_ ?_
    refine Cd.condk rfl (fun h11 => ?_) (fun h11 => ?_)
    · refine Cd.skip (At.then_ (Cd.seq (Cd.block (Cd.seq (Cd.region (Seg.step rfl rfl (Yd.move rfl) (Seg.step rfl rfl (Yd.move rfl) ?_)))))))
      refine Seg.step rfl rfl (Yd.move rfl) (Seg.step rfl rfl (Yd.indexAddr1 rfl rfl rfl (NatOf.cast _) (by omega)) (Seg.step rfl rfl (Yd.load1 rfl rfl ((hr0.ext hE0) _ _ (strV_get hlt))) (Seg.step rfl rfl (Yd.lenStr rfl rfl) (Seg.step rfl rfl (Yd.addI rfl rfl (by omega)) (Seg.step rfl rfl (Yd.addI rfl rfl (by omega)) (Seg.step rfl rfl (Yd.assign rfl) (Seg.nil ?_)))))))
      refine At.then_ (Cd.seq (Cd.region (Seg.step rfl rfl (Yd.move rfl) (Seg.step rfl rfl (Yd.gtr rfl rfl) (Seg.nil (At.then_ ?_))))))
      refine Cd.condk rfl (fun h36 => ?_) (fun h36 => ?_)
      · refine Cd.seq (Cd.region (Seg.step rfl rfl (Yd.assign rfl) (Seg.nil (At.then_ (Cd.ret (At.blk_ret (At.then_ret ?_)))))))
        refine At.then_ret (At.blk_ret (At.then_ret ?_))
        exact At.ret Tryz.results13 (.tmp rfl .nil) ⟨⟨false, rfl, fun h => (by cases h)⟩, hE0⟩
      · refine Cd.skip (At.blk (At.then_ (Cd.region (Seg.step rfl rfl (Yd.move rfl) (Seg.step rfl rfl (Yd.addI rfl rfl (by omega)) (Seg.step rfl rfl (Yd.assign rfl) (Seg.nil ?_)))))))
        exact At.round (i + 1, _) (.cons rfl (.cons rfl (.cons rfl (.cons rfl (.nil _))))) ⟨by show _ + _ ≤ _; omega, by show _ = ((szTo xs (i + 1) : Nat) : Int); omega, by show szTo xs (i + 1) ≤ 400; omega, hE0⟩ (by show _ - _ < _ - _; omega)
    · exfalso; omega
  · obtain rfl : i = xs.length := by omega
    refine Cd.seq (Cd.seq (Cd.region (Seg.step rfl rfl (Yd.move rfl) (Seg.step rfl rfl (Yd.move rfl) (Seg.step rfl rfl (Yd.lenS rfl rfl) (Seg.step rfl rfl (Yd.lss rfl rfl) (Seg.nil ?_)))))))
    refine At.then_ ?_
    refine Cd.condk rfl (fun h11 => ?_) (fun h11 => ?_)
    · exfalso; omega
    · refine Cd.exit (At.then_exit (At.then_exit (At.blk_same (At.then_ (Cd.seq (Cd.region (Seg.step rfl rfl (Yd.assign rfl) ?_)))))))
      refine Seg.nil (At.then_ (Cd.ret ?_))
      exact At.ret Tryz.results13 (.tmp rfl .nil) ⟨⟨true, rfl, fun _ => fit_of_size hT⟩, hE0⟩
theorem exact_any (xs ys : List (List UInt8)) (v0 v1 : Value) (w : World) (h0 : NameAt w v0 xs) (h1 : NameAt w v1 ys) (hx : xs.length ≤ 9223372036854775807) :
    Ret Tryz.prog 56 #[v0, v1] w fun v w' => v = .bool (decide (xs = ys)) ∧ Ext w w' := by
  have hE0 := Ext.refl w
  refine Ret.body Tryz.func56 rfl Tryz.ntmps56 rfl (Cd.seq (Cd.region (Seg.step rfl rfl (Yd.assign rfl) (Seg.nil (At.then_ (Cd.seq (Cd.region ?_)))))))
  refine Seg.step rfl rfl (Yd.move rfl) (Seg.step rfl rfl (Yd.move rfl) ?_)
  (refine Seg.call rfl rfl (own_of rfl) rfl (sameT_any xs ys v0 v1 _ h0 h1 hx) ?_; rintro _ w11 ⟨rfl, hE11⟩)
  replace hE0 := Ext.trans hE0 hE11
  refine Seg.step rfl rfl (Yd.assign rfl) (Seg.nil (At.then_ (Cd.ret ?_)))
  exact At.ret Tryz.results56 (.tmp rfl .nil) ⟨rfl, hE0⟩
structure Rec where
  nm : List (List UInt8)
  tg : List (List UInt8)
  ml : List (List UInt8)
  vn : Value
  vt : Value
  vm : Value
  ty : Int
  cl : Int
  ttl : Int
  fam : Int
  zone : Int
  pri : Int
  wt : Int
  pt : Int
  raw : List UInt8
  i0 : Int
  i1 : Int
  i2 : Int
  i3 : Int
  i4 : Int
  i5 : Int
  i6 : Int
  i7 : Int
  i8 : Int
  i9 : Int
  i10 : Int
  i11 : Int
  i12 : Int
  i13 : Int
  i14 : Int
  i15 : Int
  m0 : Int
  m1 : Int
  m2 : Int
  m3 : Int
  m4 : Int
def Rec.cells (r : Rec) : List Value := [r.vn, .int .i64 r.ty, .int .i64 r.cl, .int .i64 r.ttl, .int .i64 r.fam, .int .u8 r.i0, .int .u8 r.i1, .int .u8 r.i2, .int .u8 r.i3, .int .u8 r.i4, .int .u8 r.i5, .int .u8 r.i6, .int .u8 r.i7, .int .u8 r.i8, .int .u8 r.i9, .int .u8 r.i10, .int .u8 r.i11, .int .u8 r.i12, .int .u8 r.i13, .int .u8 r.i14, .int .u8 r.i15, .int .i64 r.zone, r.vt, r.vm, .int .i64 r.pri, .int .i64 r.wt, .int .i64 r.pt, .int .i64 r.m0, .int .i64 r.m1, .int .i64 r.m2, .int .i64 r.m3, .int .i64 r.m4, .string ⟨r.raw.toArray⟩]
def RecAt (w : World) (r : Rec) : Prop := NameAt w r.vn r.nm ∧ NameAt w r.vt r.tg ∧ NameAt w r.vm r.ml
def FitR (r : Rec) : Prop := Fit r.nm ∧ Fit r.tg ∧ Fit r.ml ∧ r.raw.length ≤ 70000
def HeldR (r : Rec) : Prop := Held r.nm ∧ Held r.tg ∧ Held r.ml ∧ r.raw.length ≤ 140737488351232
theorem RecAt.ext {w w' : World} {r : Rec} (h : RecAt w r) (hE : Ext w w') : RecAt w' r := ⟨h.1.ext hE, h.2.1.ext hE, h.2.2.ext hE⟩
theorem small13 (r : Rec) (w : World) (hr : RecAt w r) (hh : HeldR r) : Ret Tryz.prog 14 #[.agg r.cells.toArray] w fun v w' => (∃ b : Bool, v = .bool b ∧ (b = true → FitR r)) ∧ Ext w w' := by
  have hE0 := Ext.refl w
  refine Ret.body Tryz.func14 rfl Tryz.ntmps14 rfl (Cd.seq (Cd.region (Seg.box rfl rfl rfl (fun w3 b3 hE3 hB3 hb3 => ?_))))
  have hlt3_0 := Nat.le_trans hE0.size hb3
  replace hr := hr.ext hE3
  replace hE0 := Ext.trans hE0 hE3
  refine Seg.step rfl rfl (Yd.assign rfl) (Seg.nil (At.then_ (Cd.seq (Cd.region (Seg.step rfl rfl (Yd.fieldAddr rfl rfl) (Seg.step rfl rfl (Yd.load1 rfl rfl (hB3.row _ _ rfl)) ?_))))))
  (refine Seg.call rfl rfl (own_of rfl) rfl (few_any r.nm r.vn _ hr.1 hh.1) ?_; rintro _ w11 ⟨⟨p1, rfl, k1⟩, hE11⟩)
  replace hE3 := Ext.trans hE3 hE11
  replace hB3 := hB3.ext hE11
  replace hr := hr.ext hE11
  replace hE0 := Ext.trans hE0 hE11
  refine Seg.step rfl rfl (Yd.move rfl) ?_
  refine Seg.gsplit rfl rfl (fun h13 => ?_) (fun h13 => ?_)
  · refine Seg.step rfl rfl (Yd.fieldAddr rfl rfl) (Seg.step rfl rfl (Yd.load1 rfl rfl (hB3.row _ _ rfl)) ?_)
    (refine Seg.call rfl rfl (own_of rfl) rfl (few_any r.tg r.vt _ hr.2.1 hh.2.1) ?_; rintro _ w17 ⟨⟨p2, rfl, k2⟩, hE17⟩)
    replace hE11 := Ext.trans hE11 hE17
    replace hE3 := Ext.trans hE3 hE17
    replace hB3 := hB3.ext hE17
    replace hr := hr.ext hE17
    replace hE0 := Ext.trans hE0 hE17
    refine Seg.step rfl rfl (Yd.pickT rfl rfl) (Seg.step rfl rfl (Yd.move rfl) ?_)
    refine Seg.gsplit rfl rfl (fun h20 => ?_) (fun h20 => ?_)
    · refine Seg.step rfl rfl (Yd.fieldAddr rfl rfl) (Seg.step rfl rfl (Yd.load1 rfl rfl (hB3.row _ _ rfl)) ?_)
      (refine Seg.call rfl rfl (own_of rfl) rfl (few_any r.ml r.vm _ hr.2.2 hh.2.2.1) ?_; rintro _ w24 ⟨⟨p3, rfl, k3⟩, hE24⟩)
      replace hE17 := Ext.trans hE17 hE24
      replace hE11 := Ext.trans hE11 hE24
      replace hE3 := Ext.trans hE3 hE24
      replace hB3 := hB3.ext hE24
      replace hr := hr.ext hE24
      replace hE0 := Ext.trans hE0 hE24
      refine Seg.step rfl rfl (Yd.pickT rfl rfl) (Seg.step rfl rfl (Yd.move rfl) ?_)
      refine Seg.gsplit rfl rfl (fun h27 => ?_) (fun h27 => ?_)
      · refine Seg.step rfl rfl (Yd.fieldAddr rfl rfl) (Seg.step rfl rfl (Yd.load1 rfl rfl (hB3.row _ _ rfl)) (Seg.step rfl rfl (Yd.lenStr rfl rfl) (Seg.step rfl rfl (Yd.leq rfl rfl) (Seg.step rfl rfl (Yd.pickT rfl rfl) (Seg.step rfl rfl (Yd.assign rfl) (Seg.nil (At.then_ ?_)))))))
        refine Cd.ret ?_
        exact At.ret Tryz.results14 (.tmp rfl .nil) ⟨⟨_, rfl, fun h => ⟨k1 (by assumption), k2 (by assumption), k3 (by assumption), by have := of_decide_eq_true h; omega⟩⟩, hE0⟩
      · refine Seg.skip rfl rfl (Seg.skip rfl rfl (Seg.skip rfl rfl (Seg.skip rfl rfl (Seg.step rfl rfl (Yd.pickF rfl rfl) (Seg.step rfl rfl (Yd.assign rfl) (Seg.nil (At.then_ ?_)))))))
        refine Cd.ret ?_
        exact At.ret Tryz.results14 (.tmp rfl .nil) ⟨⟨false, rfl, fun h => (by cases h)⟩, hE0⟩
    · refine Seg.skip rfl rfl (Seg.skip rfl rfl (Seg.skip rfl rfl (Seg.step rfl rfl (Yd.pickF rfl rfl) (Seg.step rfl rfl (Yd.move rfl) (Seg.skip rfl rfl (Seg.skip rfl rfl (Seg.skip rfl rfl ?_)))))))
      refine Seg.skip rfl rfl (Seg.step rfl rfl (Yd.pickF rfl rfl) (Seg.step rfl rfl (Yd.assign rfl) (Seg.nil (At.then_ (Cd.ret ?_)))))
      exact At.ret Tryz.results14 (.tmp rfl .nil) ⟨⟨false, rfl, fun h => (by cases h)⟩, hE0⟩
  · refine Seg.skip rfl rfl (Seg.skip rfl rfl (Seg.skip rfl rfl (Seg.step rfl rfl (Yd.pickF rfl rfl) (Seg.step rfl rfl (Yd.move rfl) (Seg.skip rfl rfl (Seg.skip rfl rfl (Seg.skip rfl rfl ?_)))))))
    refine Seg.step rfl rfl (Yd.pickF rfl rfl) (Seg.step rfl rfl (Yd.move rfl) (Seg.skip rfl rfl (Seg.skip rfl rfl (Seg.skip rfl rfl (Seg.skip rfl rfl (Seg.step rfl rfl (Yd.pickF rfl rfl) (Seg.step rfl rfl (Yd.assign rfl) ?_)))))))
    refine Seg.nil (At.then_ (Cd.ret ?_))
    exact At.ret Tryz.results14 (.tmp rfl .nil) ⟨⟨false, rfl, fun h => (by cases h)⟩, hE0⟩

/-- Records as cells. -/
def recsV (rs : List Rec) : List Value := rs.flatMap Rec.cells
theorem cells_length (r : Rec) : r.cells.length = 33 := rfl
theorem recsV_length (rs : List Rec) : (recsV rs).length = rs.length * 33 := by
  induction rs with
  | nil => rfl
  | cons r rs ih => rw [recsV, List.flatMap_cons, List.length_append, cells_length, List.length_cons, Nat.succ_mul, ← recsV, ih]; omega
theorem recsV_append (a b : List Rec) : recsV (a ++ b) = recsV a ++ recsV b := List.flatMap_append
theorem recs_part {w : World} : ∀ {rs : List Rec} {a : Addr}, Row w a (recsV rs) → ∀ {i : Nat} {r : Rec}, rs[i]? = some r → Row w (a.add (i * 33)) r.cells
  | [], _, _, _, _, h => by simp at h
  | x :: rs, a, hR, 0, r, h => by
    obtain rfl : x = r := by simpa using h
    have := hR.take 33
    rw [recsV, List.flatMap_cons, List.take_left' (cells_length x)] at this
    rw [Nat.zero_mul, Addr.add0]
    exact this
  | x :: rs, a, hR, i + 1, r, h => by
    have h1 := hR.drop 33
    have h2 : (recsV (x :: rs)).drop 33 = recsV rs := by
      rw [recsV, List.flatMap_cons, List.drop_left' (cells_length x)]
      rfl
    rw [h2] at h1
    have := recs_part h1 (i := i) (r := r) (by simpa using h)
    rw [Deep.add_add] at this
    rwa [show 33 + i * 33 = (i + 1) * 33 by omega] at this
theorem recs_one (rs : List Rec) (h : ∀ r ∈ rs, r.vn.oneCell' = true ∧ r.vt.oneCell' = true ∧ r.vm.oneCell' = true) : ∀ c ∈ recsV rs, c.oneCell' = true := by
  intro c hc
  obtain ⟨r, hr, hc⟩ := List.mem_flatMap.1 hc
  obtain ⟨h1, h2, h3⟩ := h r hr
  simp only [Rec.cells, List.mem_cons, List.not_mem_nil, or_false] at hc
  rcases hc with rfl | rfl | rfl | rfl | rfl | rfl | rfl | rfl | rfl | rfl | rfl | rfl | rfl | rfl | rfl | rfl | rfl | rfl | rfl | rfl | rfl | rfl | rfl | rfl | rfl | rfl | rfl | rfl | rfl | rfl | rfl | rfl | rfl <;> first | rfl | assumption
/-- Records lie at v. -/
def RecsAt (w : World) (v : Value) (rs : List Rec) : Prop := Sl w 33 v rs.length (recsV rs) ∧ ∀ r ∈ rs, RecAt w r
theorem RecsAt.ext {w w' : World} {v : Value} {rs : List Rec} (h : RecsAt w v rs) (hE : Ext w w') : RecsAt w' v rs := ⟨h.1.ext hE, fun r hr => (h.2 r hr).ext hE⟩

theorem fits_succ {rs : List Rec} {i : Nat} {r : Rec} (hT : ∀ j r, j < i → rs[j]? = some r → FitR r) (hri : rs[i]? = some r) (hf : FitR r) : ∀ j r, j < i + 1 → rs[j]? = some r → FitR r := fun j r' hj hjr => by
  rcases Nat.lt_succ_iff_lt_or_eq.1 hj with hj | rfl
  · exact hT j r' hj hjr
  · rw [hri] at hjr
    cases hjr
    exact hf
def W64 (i : Int) : Prop := (Lit.int .i64 i).wf = true
def W8 (i : Int) : Prop := (Lit.int .u8 i).wf = true
/-- A record's address, as integers. -/
def Rec.adr (r : Rec) : Int × Int × List Int := (r.fam, r.zone, [r.i0, r.i1, r.i2, r.i3, r.i4, r.i5, r.i6, r.i7, r.i8, r.i9, r.i10, r.i11, r.i12, r.i13, r.i14, r.i15])
def Rec.nums (r : Rec) : List Int := [r.m0, r.m1, r.m2, r.m3, r.m4]
def Rec.adrV (r : Rec) : List Value := [.int .i64 r.fam, .int .u8 r.i0, .int .u8 r.i1, .int .u8 r.i2, .int .u8 r.i3, .int .u8 r.i4, .int .u8 r.i5, .int .u8 r.i6, .int .u8 r.i7, .int .u8 r.i8, .int .u8 r.i9, .int .u8 r.i10, .int .u8 r.i11, .int .u8 r.i12, .int .u8 r.i13, .int .u8 r.i14, .int .u8 r.i15, .int .i64 r.zone]
def Rec.numV (r : Rec) : List Value := [.int .i64 r.m0, .int .i64 r.m1, .int .i64 r.m2, .int .i64 r.m3, .int .i64 r.m4]
def Rec.adrL (r : Rec) : List Lit := [.int .i64 r.fam, .int .u8 r.i0, .int .u8 r.i1, .int .u8 r.i2, .int .u8 r.i3, .int .u8 r.i4, .int .u8 r.i5, .int .u8 r.i6, .int .u8 r.i7, .int .u8 r.i8, .int .u8 r.i9, .int .u8 r.i10, .int .u8 r.i11, .int .u8 r.i12, .int .u8 r.i13, .int .u8 r.i14, .int .u8 r.i15, .int .i64 r.zone]
def Rec.numL (r : Rec) : List Lit := [.int .i64 r.m0, .int .i64 r.m1, .int .i64 r.m2, .int .i64 r.m3, .int .i64 r.m4]
/-- Its integers are such as their types have. -/
def WfR (r : Rec) : Prop := W64 r.fam ∧ W64 r.zone ∧ (∀ i ∈ [r.i0, r.i1, r.i2, r.i3, r.i4, r.i5, r.i6, r.i7, r.i8, r.i9, r.i10, r.i11, r.i12, r.i13, r.i14, r.i15], W8 i) ∧ ∀ i ∈ r.nums, W64 i
/-- What a record holds. -/
def Rec.key (r : Rec) : (List (List UInt8) × List (List UInt8) × List (List UInt8)) × (List Int × (Int × Int × List Int) × List Int) × List UInt8 := ((r.nm, r.tg, r.ml), ([r.ty, r.cl, r.ttl, r.pri, r.wt, r.pt], r.adr, r.nums), r.raw)
theorem adr_lits (r : Rec) (h : WfR r) : Tryz.prog.keyLits 3 54 r.adrV = some r.adrL := by
  obtain ⟨h1, h2, h3, _⟩ := h
  simp only [List.mem_cons, List.not_mem_nil, or_false, forall_eq_or_imp, forall_eq] at h3
  unfold W64 at h1 h2
  unfold W8 at h3
  have e32 := cellsOf_run Tryz.sizeOf52
  have e34 := cellsOf_run Tryz.sizeOf54
  have e3 := cellsOf_run Tryz.sizeOf3
  have e5 := cellsOf_run Tryz.sizeOf5
  have e16 : List.range 16 = [0, 1, 2, 3, 4, 5, 6, 7, 8, 9, 10, 11, 12, 13, 14, 15] := rfl
  simp [e16, Program.keyLits, Tryz.underlying54, Tryz.underlying52, Tryz.underlying3, Tryz.underlying5, e32, e34, e3, e5, Rec.adrV, Rec.adrL, h1, h2, h3]
theorem num_lits (r : Rec) (h : WfR r) : Tryz.prog.keyLits 2 55 r.numV = some r.numL := by
  obtain ⟨_, _, _, h3⟩ := h
  simp only [Rec.nums, List.mem_cons, List.not_mem_nil, or_false, forall_eq_or_imp, forall_eq] at h3
  unfold W64 at h3
  have e35 := cellsOf_run Tryz.sizeOf55
  have e3 := cellsOf_run Tryz.sizeOf3
  have e16 : List.range 5 = [0, 1, 2, 3, 4] := rfl
  simp [e16, Program.keyLits, Tryz.underlying55, Tryz.underlying3, e35, e3, Rec.numV, Rec.numL, h3]
theorem adr_eq (r s : Rec) : r.adrL = s.adrL ↔ r.adr = s.adr := by
  simp only [Rec.adrL, Rec.adr, List.cons.injEq, Lit.int.injEq, true_and, and_true, Prod.mk.injEq]
  constructor
  · rintro ⟨h0, h1, h2, h3, h4, h5, h6, h7, h8, h9, h10, h11, h12, h13, h14, h15, h16, h17⟩
    exact ⟨h0, h17, h1, h2, h3, h4, h5, h6, h7, h8, h9, h10, h11, h12, h13, h14, h15, h16⟩
  · rintro ⟨h0, h17, h1, h2, h3, h4, h5, h6, h7, h8, h9, h10, h11, h12, h13, h14, h15, h16⟩
    exact ⟨h0, h1, h2, h3, h4, h5, h6, h7, h8, h9, h10, h11, h12, h13, h14, h15, h16, h17⟩
theorem num_eq (r s : Rec) : r.numL = s.numL ↔ r.nums = s.nums := by
  simp [Rec.numL, Rec.nums]
set_option maxHeartbeats 400000 in
theorem same13 (r s : Rec) (w : World) (hr : RecAt w r) (hs : RecAt w s) (fr : FitR r) (wr : WfR r) (ws : WfR s) :
    Ret Tryz.prog 57 #[.agg r.cells.toArray, .agg s.cells.toArray] w fun v w' => (∃ b : Bool, v = .bool b ∧ (b = true ↔ r.key = s.key)) ∧ Ext w w' := by
  have hE0 := Ext.refl w
  refine Ret.body Tryz.func57 rfl Tryz.ntmps57 rfl (Cd.seq (Cd.region (Seg.box rfl rfl rfl (fun w3 b3 hE3 hB3 hb3 => ?_))))
  have hlt3_0 := Nat.le_trans hE0.size hb3
  replace hr := hr.ext hE3
  replace hs := hs.ext hE3
  replace hE0 := Ext.trans hE0 hE3
  refine Seg.box rfl rfl rfl (fun w4 b4 hE4 hB4 hb4 => ?_)
  have hlt4_0 := Nat.le_trans hE3.size hb4
  have hlt4_1 := Nat.lt_of_lt_of_le hB3.lt hb4
  have hlt4_2 := Nat.le_trans hE0.size hb4
  replace hE3 := Ext.trans hE3 hE4
  replace hB3 := hB3.ext hE4
  replace hr := hr.ext hE4
  replace hs := hs.ext hE4
  replace hE0 := Ext.trans hE0 hE4
  refine Seg.step rfl rfl (Yd.assign rfl) (Seg.nil (At.then_ (Cd.seq (Cd.region (Seg.step rfl rfl (Yd.fieldAddr rfl rfl) (Seg.step rfl rfl (Yd.load1 rfl rfl (hB3.row _ _ rfl)) (Seg.step rfl rfl (Yd.fieldAddr rfl rfl) ?_)))))))
  refine Seg.step rfl rfl (Yd.load1 rfl rfl (hB4.row _ _ rfl)) ?_
  (refine Seg.call rfl rfl (own_of rfl) rfl (exact_any r.nm s.nm _ _ _ hr.1 hs.1 (by have := fr.1.1; omega)) ?_; rintro _ w14 ⟨rfl, hE14⟩)
  replace hE4 := Ext.trans hE4 hE14
  replace hB4 := hB4.ext hE14
  replace hE3 := Ext.trans hE3 hE14
  replace hB3 := hB3.ext hE14
  replace hr := hr.ext hE14
  replace hs := hs.ext hE14
  replace hE0 := Ext.trans hE0 hE14
  refine Seg.step rfl rfl (Yd.move rfl) ?_
  refine Seg.gsplitp rfl rfl (fun h16 => ?_) (fun h16 => ?_)
  · refine Seg.step rfl rfl (Yd.fieldAddr rfl rfl) (Seg.step rfl rfl (Yd.load1 rfl rfl (hB3.row _ _ rfl)) (Seg.step rfl rfl (Yd.fieldAddr rfl rfl) (Seg.step rfl rfl (Yd.load1 rfl rfl (hB4.row _ _ rfl)) (Seg.step rfl rfl (Yd.eql rfl rfl) (Seg.step rfl rfl (Yd.pickT rfl rfl) (Seg.step rfl rfl (Yd.move rfl) ?_))))))
    refine Seg.gsplitp rfl rfl (fun h25 => ?_) (fun h25 => ?_)
    · refine Seg.step rfl rfl (Yd.fieldAddr rfl rfl) (Seg.step rfl rfl (Yd.load1 rfl rfl (hB3.row _ _ rfl)) (Seg.step rfl rfl (Yd.fieldAddr rfl rfl) (Seg.step rfl rfl (Yd.load1 rfl rfl (hB4.row _ _ rfl)) (Seg.step rfl rfl (Yd.eql rfl rfl) (Seg.step rfl rfl (Yd.pickT rfl rfl) (Seg.step rfl rfl (Yd.move rfl) ?_))))))
      refine Seg.gsplitp rfl rfl (fun h34 => ?_) (fun h34 => ?_)
      · refine Seg.step rfl rfl (Yd.fieldAddr rfl rfl) (Seg.step rfl rfl (Yd.load1 rfl rfl (hB3.row _ _ rfl)) (Seg.step rfl rfl (Yd.fieldAddr rfl rfl) (Seg.step rfl rfl (Yd.load1 rfl rfl (hB4.row _ _ rfl)) (Seg.step rfl rfl (Yd.eql rfl rfl) (Seg.step rfl rfl (Yd.pickT rfl rfl) (Seg.step rfl rfl (Yd.move rfl) ?_))))))
        refine Seg.gsplitp rfl rfl (fun h43 => ?_) (fun h43 => ?_)
        · refine Seg.step rfl rfl (Yd.fieldAddr rfl rfl) (Seg.step rfl rfl (Yd.loadN rfl rfl rfl (show Row _ (Addr.add ⟨b3, 0, none⟩ 4) r.adrV from hB3.row.part 4 18)) (Seg.step rfl rfl (Yd.fieldAddr rfl rfl) (Seg.step rfl rfl (Yd.loadN rfl rfl rfl (show Row _ (Addr.add ⟨b4, 0, none⟩ 4) s.adrV from hB4.row.part 4 18)) (Seg.step rfl rfl (Yd.eqlD rfl rfl (by kernel_rfl) (by kernel_rfl) (by kernel_rfl) (by kernel_rfl) (adr_lits r wr) (adr_lits s ws) (adr_eq r s)) (Seg.step rfl rfl (Yd.pickT rfl rfl) (Seg.step rfl rfl (Yd.move rfl) ?_))))))
          refine Seg.gsplitp rfl rfl (fun h52 => ?_) (fun h52 => ?_)
          · refine Seg.step rfl rfl (Yd.fieldAddr rfl rfl) (Seg.step rfl rfl (Yd.load1 rfl rfl (hB3.row _ _ rfl)) (Seg.step rfl rfl (Yd.fieldAddr rfl rfl) (Seg.step rfl rfl (Yd.load1 rfl rfl (hB4.row _ _ rfl)) ?_)))
            (refine Seg.call rfl rfl (own_of rfl) rfl (exact_any r.tg s.tg _ _ _ hr.2.1 hs.2.1 (by have := fr.2.1.1; omega)) ?_; rintro _ w58 ⟨rfl, hE58⟩)
            replace hE14 := Ext.trans hE14 hE58
            replace hE4 := Ext.trans hE4 hE58
            replace hB4 := hB4.ext hE58
            replace hE3 := Ext.trans hE3 hE58
            replace hB3 := hB3.ext hE58
            replace hr := hr.ext hE58
            replace hs := hs.ext hE58
            replace hE0 := Ext.trans hE0 hE58
            refine Seg.step rfl rfl (Yd.pickT rfl rfl) (Seg.step rfl rfl (Yd.move rfl) ?_)
            refine Seg.gsplitp rfl rfl (fun h61 => ?_) (fun h61 => ?_)
            · refine Seg.step rfl rfl (Yd.fieldAddr rfl rfl) (Seg.step rfl rfl (Yd.load1 rfl rfl (hB3.row _ _ rfl)) (Seg.step rfl rfl (Yd.fieldAddr rfl rfl) (Seg.step rfl rfl (Yd.load1 rfl rfl (hB4.row _ _ rfl)) ?_)))
              (refine Seg.call rfl rfl (own_of rfl) rfl (exact_any r.ml s.ml _ _ _ hr.2.2 hs.2.2 (by have := fr.2.2.1.1; omega)) ?_; rintro _ w67 ⟨rfl, hE67⟩)
              replace hE58 := Ext.trans hE58 hE67
              replace hE14 := Ext.trans hE14 hE67
              replace hE4 := Ext.trans hE4 hE67
              replace hB4 := hB4.ext hE67
              replace hE3 := Ext.trans hE3 hE67
              replace hB3 := hB3.ext hE67
              replace hr := hr.ext hE67
              replace hs := hs.ext hE67
              replace hE0 := Ext.trans hE0 hE67
              refine Seg.step rfl rfl (Yd.pickT rfl rfl) (Seg.step rfl rfl (Yd.move rfl) ?_)
              refine Seg.gsplitp rfl rfl (fun h70 => ?_) (fun h70 => ?_)
              · refine Seg.step rfl rfl (Yd.fieldAddr rfl rfl) (Seg.step rfl rfl (Yd.load1 rfl rfl (hB3.row _ _ rfl)) (Seg.step rfl rfl (Yd.fieldAddr rfl rfl) (Seg.step rfl rfl (Yd.load1 rfl rfl (hB4.row _ _ rfl)) (Seg.step rfl rfl (Yd.eql rfl rfl) (Seg.step rfl rfl (Yd.pickT rfl rfl) (Seg.step rfl rfl (Yd.move rfl) ?_))))))
                refine Seg.gsplitp rfl rfl (fun h79 => ?_) (fun h79 => ?_)
                · refine Seg.step rfl rfl (Yd.fieldAddr rfl rfl) (Seg.step rfl rfl (Yd.load1 rfl rfl (hB3.row _ _ rfl)) (Seg.step rfl rfl (Yd.fieldAddr rfl rfl) (Seg.step rfl rfl (Yd.load1 rfl rfl (hB4.row _ _ rfl)) (Seg.step rfl rfl (Yd.eql rfl rfl) (Seg.step rfl rfl (Yd.pickT rfl rfl) (Seg.step rfl rfl (Yd.move rfl) ?_))))))
                  refine Seg.gsplitp rfl rfl (fun h88 => ?_) (fun h88 => ?_)
                  · refine Seg.step rfl rfl (Yd.fieldAddr rfl rfl) (Seg.step rfl rfl (Yd.load1 rfl rfl (hB3.row _ _ rfl)) (Seg.step rfl rfl (Yd.fieldAddr rfl rfl) (Seg.step rfl rfl (Yd.load1 rfl rfl (hB4.row _ _ rfl)) (Seg.step rfl rfl (Yd.eql rfl rfl) (Seg.step rfl rfl (Yd.pickT rfl rfl) (Seg.step rfl rfl (Yd.move rfl) ?_))))))
                    refine Seg.gsplitp rfl rfl (fun h97 => ?_) (fun h97 => ?_)
                    · refine Seg.step rfl rfl (Yd.fieldAddr rfl rfl) (Seg.step rfl rfl (Yd.loadN rfl rfl rfl (show Row _ (Addr.add ⟨b3, 0, none⟩ 27) r.numV from hB3.row.part 27 5)) (Seg.step rfl rfl (Yd.fieldAddr rfl rfl) (Seg.step rfl rfl (Yd.loadN rfl rfl rfl (show Row _ (Addr.add ⟨b4, 0, none⟩ 27) s.numV from hB4.row.part 27 5)) (Seg.step rfl rfl (Yd.eqlD rfl rfl (by kernel_rfl) (by kernel_rfl) (by kernel_rfl) (by kernel_rfl) (num_lits r wr) (num_lits s ws) (num_eq r s)) (Seg.step rfl rfl (Yd.pickT rfl rfl) (Seg.step rfl rfl (Yd.move rfl) ?_))))))
                      refine Seg.gsplitp rfl rfl (fun h106 => ?_) (fun h106 => ?_)
                      · refine Seg.step rfl rfl (Yd.fieldAddr rfl rfl) (Seg.step rfl rfl (Yd.load1 rfl rfl (hB3.row _ _ rfl)) (Seg.step rfl rfl (Yd.fieldAddr rfl rfl) (Seg.step rfl rfl (Yd.load1 rfl rfl (hB4.row _ _ rfl)) (Seg.step rfl rfl (Yd.eqlS rfl rfl) (Seg.step rfl rfl (Yd.pickT rfl rfl) (Seg.step rfl rfl (Yd.assign rfl) (Seg.nil ?_)))))))
                        refine At.then_ (Cd.ret ?_)
                        exact At.ret Tryz.results57 (.tmp rfl .nil) ⟨⟨_, rfl, by (rw [decide_eq_true_iff]); constructor <;> intro hk; (simp only [Rec.key, *]); (simp only [Rec.key, Prod.mk.injEq] at hk; exact hk.2.2)⟩, hE0⟩
                      · refine Seg.skip rfl rfl (Seg.skip rfl rfl (Seg.skip rfl rfl (Seg.skip rfl rfl (Seg.skip rfl rfl (Seg.step rfl rfl (Yd.pickF rfl rfl) (Seg.step rfl rfl (Yd.assign rfl) (Seg.nil ?_)))))))
                        refine At.then_ (Cd.ret ?_)
                        exact At.ret Tryz.results57 (.tmp rfl .nil) ⟨⟨false, rfl, by constructor <;> intro hk; (cases hk); (simp only [Rec.key, Prod.mk.injEq, List.cons.injEq, and_true] at hk; simp_all)⟩, hE0⟩
                    · refine Seg.skip rfl rfl (Seg.skip rfl rfl (Seg.skip rfl rfl (Seg.skip rfl rfl (Seg.skip rfl rfl (Seg.step rfl rfl (Yd.pickF rfl rfl) (Seg.step rfl rfl (Yd.move rfl) (Seg.skip rfl rfl ?_)))))))
                      refine Seg.skip rfl rfl (Seg.skip rfl rfl (Seg.skip rfl rfl (Seg.skip rfl rfl (Seg.step rfl rfl (Yd.pickF rfl rfl) (Seg.step rfl rfl (Yd.assign rfl) (Seg.nil (At.then_ ?_)))))))
                      refine Cd.ret ?_
                      exact At.ret Tryz.results57 (.tmp rfl .nil) ⟨⟨false, rfl, by constructor <;> intro hk; (cases hk); (simp only [Rec.key, Prod.mk.injEq, List.cons.injEq, and_true] at hk; simp_all)⟩, hE0⟩
                  · refine Seg.skip rfl rfl (Seg.skip rfl rfl (Seg.skip rfl rfl (Seg.skip rfl rfl (Seg.skip rfl rfl (Seg.step rfl rfl (Yd.pickF rfl rfl) (Seg.step rfl rfl (Yd.move rfl) (Seg.skip rfl rfl ?_)))))))
                    refine Seg.skip rfl rfl (Seg.skip rfl rfl (Seg.skip rfl rfl (Seg.skip rfl rfl (Seg.step rfl rfl (Yd.pickF rfl rfl) (Seg.step rfl rfl (Yd.move rfl) (Seg.skip rfl rfl (Seg.skip rfl rfl ?_)))))))
                    refine Seg.skip rfl rfl (Seg.skip rfl rfl (Seg.skip rfl rfl (Seg.step rfl rfl (Yd.pickF rfl rfl) (Seg.step rfl rfl (Yd.assign rfl) (Seg.nil (At.then_ (Cd.ret ?_)))))))
                    exact At.ret Tryz.results57 (.tmp rfl .nil) ⟨⟨false, rfl, by constructor <;> intro hk; (cases hk); (simp only [Rec.key, Prod.mk.injEq, List.cons.injEq, and_true] at hk; simp_all)⟩, hE0⟩
                · refine Seg.skip rfl rfl (Seg.skip rfl rfl (Seg.skip rfl rfl (Seg.skip rfl rfl (Seg.skip rfl rfl (Seg.step rfl rfl (Yd.pickF rfl rfl) (Seg.step rfl rfl (Yd.move rfl) (Seg.skip rfl rfl ?_)))))))
                  refine Seg.skip rfl rfl (Seg.skip rfl rfl (Seg.skip rfl rfl (Seg.skip rfl rfl (Seg.step rfl rfl (Yd.pickF rfl rfl) (Seg.step rfl rfl (Yd.move rfl) (Seg.skip rfl rfl (Seg.skip rfl rfl ?_)))))))
                  refine Seg.skip rfl rfl (Seg.skip rfl rfl (Seg.skip rfl rfl (Seg.step rfl rfl (Yd.pickF rfl rfl) (Seg.step rfl rfl (Yd.move rfl) (Seg.skip rfl rfl (Seg.skip rfl rfl (Seg.skip rfl rfl ?_)))))))
                  refine Seg.skip rfl rfl (Seg.skip rfl rfl (Seg.step rfl rfl (Yd.pickF rfl rfl) (Seg.step rfl rfl (Yd.assign rfl) (Seg.nil (At.then_ (Cd.ret ?_))))))
                  exact At.ret Tryz.results57 (.tmp rfl .nil) ⟨⟨false, rfl, by constructor <;> intro hk; (cases hk); (simp only [Rec.key, Prod.mk.injEq, List.cons.injEq, and_true] at hk; simp_all)⟩, hE0⟩
              · refine Seg.skip rfl rfl (Seg.skip rfl rfl (Seg.skip rfl rfl (Seg.skip rfl rfl (Seg.skip rfl rfl (Seg.step rfl rfl (Yd.pickF rfl rfl) (Seg.step rfl rfl (Yd.move rfl) (Seg.skip rfl rfl ?_)))))))
                refine Seg.skip rfl rfl (Seg.skip rfl rfl (Seg.skip rfl rfl (Seg.skip rfl rfl (Seg.step rfl rfl (Yd.pickF rfl rfl) (Seg.step rfl rfl (Yd.move rfl) (Seg.skip rfl rfl (Seg.skip rfl rfl ?_)))))))
                refine Seg.skip rfl rfl (Seg.skip rfl rfl (Seg.skip rfl rfl (Seg.step rfl rfl (Yd.pickF rfl rfl) (Seg.step rfl rfl (Yd.move rfl) (Seg.skip rfl rfl (Seg.skip rfl rfl (Seg.skip rfl rfl ?_)))))))
                refine Seg.skip rfl rfl (Seg.skip rfl rfl (Seg.step rfl rfl (Yd.pickF rfl rfl) (Seg.step rfl rfl (Yd.move rfl) (Seg.skip rfl rfl (Seg.skip rfl rfl (Seg.skip rfl rfl (Seg.skip rfl rfl ?_)))))))
                refine Seg.skip rfl rfl (Seg.step rfl rfl (Yd.pickF rfl rfl) (Seg.step rfl rfl (Yd.assign rfl) (Seg.nil (At.then_ (Cd.ret ?_)))))
                exact At.ret Tryz.results57 (.tmp rfl .nil) ⟨⟨false, rfl, by constructor <;> intro hk; (cases hk); (simp only [Rec.key, Prod.mk.injEq, List.cons.injEq, and_true] at hk; simp_all)⟩, hE0⟩
            · refine Seg.skip rfl rfl (Seg.skip rfl rfl (Seg.skip rfl rfl (Seg.skip rfl rfl (Seg.skip rfl rfl (Seg.step rfl rfl (Yd.pickF rfl rfl) (Seg.step rfl rfl (Yd.move rfl) (Seg.skip rfl rfl ?_)))))))
              refine Seg.skip rfl rfl (Seg.skip rfl rfl (Seg.skip rfl rfl (Seg.skip rfl rfl (Seg.step rfl rfl (Yd.pickF rfl rfl) (Seg.step rfl rfl (Yd.move rfl) (Seg.skip rfl rfl (Seg.skip rfl rfl ?_)))))))
              refine Seg.skip rfl rfl (Seg.skip rfl rfl (Seg.skip rfl rfl (Seg.step rfl rfl (Yd.pickF rfl rfl) (Seg.step rfl rfl (Yd.move rfl) (Seg.skip rfl rfl (Seg.skip rfl rfl (Seg.skip rfl rfl ?_)))))))
              refine Seg.skip rfl rfl (Seg.skip rfl rfl (Seg.step rfl rfl (Yd.pickF rfl rfl) (Seg.step rfl rfl (Yd.move rfl) (Seg.skip rfl rfl (Seg.skip rfl rfl (Seg.skip rfl rfl (Seg.skip rfl rfl ?_)))))))
              refine Seg.skip rfl rfl (Seg.step rfl rfl (Yd.pickF rfl rfl) (Seg.step rfl rfl (Yd.move rfl) (Seg.skip rfl rfl (Seg.skip rfl rfl (Seg.skip rfl rfl (Seg.skip rfl rfl (Seg.skip rfl rfl ?_)))))))
              refine Seg.step rfl rfl (Yd.pickF rfl rfl) (Seg.step rfl rfl (Yd.assign rfl) (Seg.nil (At.then_ (Cd.ret ?_))))
              exact At.ret Tryz.results57 (.tmp rfl .nil) ⟨⟨false, rfl, by constructor <;> intro hk; (cases hk); (simp only [Rec.key, Prod.mk.injEq, List.cons.injEq, and_true] at hk; simp_all)⟩, hE0⟩
          · refine Seg.skip rfl rfl (Seg.skip rfl rfl (Seg.skip rfl rfl (Seg.skip rfl rfl (Seg.skip rfl rfl (Seg.step rfl rfl (Yd.pickF rfl rfl) (Seg.step rfl rfl (Yd.move rfl) (Seg.skip rfl rfl ?_)))))))
            refine Seg.skip rfl rfl (Seg.skip rfl rfl (Seg.skip rfl rfl (Seg.skip rfl rfl (Seg.step rfl rfl (Yd.pickF rfl rfl) (Seg.step rfl rfl (Yd.move rfl) (Seg.skip rfl rfl (Seg.skip rfl rfl ?_)))))))
            refine Seg.skip rfl rfl (Seg.skip rfl rfl (Seg.skip rfl rfl (Seg.step rfl rfl (Yd.pickF rfl rfl) (Seg.step rfl rfl (Yd.move rfl) (Seg.skip rfl rfl (Seg.skip rfl rfl (Seg.skip rfl rfl ?_)))))))
            refine Seg.skip rfl rfl (Seg.skip rfl rfl (Seg.step rfl rfl (Yd.pickF rfl rfl) (Seg.step rfl rfl (Yd.move rfl) (Seg.skip rfl rfl (Seg.skip rfl rfl (Seg.skip rfl rfl (Seg.skip rfl rfl ?_)))))))
            refine Seg.skip rfl rfl (Seg.step rfl rfl (Yd.pickF rfl rfl) (Seg.step rfl rfl (Yd.move rfl) (Seg.skip rfl rfl (Seg.skip rfl rfl (Seg.skip rfl rfl (Seg.skip rfl rfl (Seg.skip rfl rfl ?_)))))))
            refine Seg.step rfl rfl (Yd.pickF rfl rfl) (Seg.step rfl rfl (Yd.move rfl) (Seg.skip rfl rfl (Seg.skip rfl rfl (Seg.skip rfl rfl (Seg.skip rfl rfl (Seg.skip rfl rfl (Seg.step rfl rfl (Yd.pickF rfl rfl) ?_)))))))
            refine Seg.step rfl rfl (Yd.assign rfl) (Seg.nil (At.then_ (Cd.ret ?_)))
            exact At.ret Tryz.results57 (.tmp rfl .nil) ⟨⟨false, rfl, by constructor <;> intro hk; (cases hk); (simp only [Rec.key, Prod.mk.injEq, List.cons.injEq, and_true] at hk; simp_all)⟩, hE0⟩
        · refine Seg.skip rfl rfl (Seg.skip rfl rfl (Seg.skip rfl rfl (Seg.skip rfl rfl (Seg.skip rfl rfl (Seg.step rfl rfl (Yd.pickF rfl rfl) (Seg.step rfl rfl (Yd.move rfl) (Seg.skip rfl rfl ?_)))))))
          refine Seg.skip rfl rfl (Seg.skip rfl rfl (Seg.skip rfl rfl (Seg.skip rfl rfl (Seg.step rfl rfl (Yd.pickF rfl rfl) (Seg.step rfl rfl (Yd.move rfl) (Seg.skip rfl rfl (Seg.skip rfl rfl ?_)))))))
          refine Seg.skip rfl rfl (Seg.skip rfl rfl (Seg.skip rfl rfl (Seg.step rfl rfl (Yd.pickF rfl rfl) (Seg.step rfl rfl (Yd.move rfl) (Seg.skip rfl rfl (Seg.skip rfl rfl (Seg.skip rfl rfl ?_)))))))
          refine Seg.skip rfl rfl (Seg.skip rfl rfl (Seg.step rfl rfl (Yd.pickF rfl rfl) (Seg.step rfl rfl (Yd.move rfl) (Seg.skip rfl rfl (Seg.skip rfl rfl (Seg.skip rfl rfl (Seg.skip rfl rfl ?_)))))))
          refine Seg.skip rfl rfl (Seg.step rfl rfl (Yd.pickF rfl rfl) (Seg.step rfl rfl (Yd.move rfl) (Seg.skip rfl rfl (Seg.skip rfl rfl (Seg.skip rfl rfl (Seg.skip rfl rfl (Seg.skip rfl rfl ?_)))))))
          refine Seg.step rfl rfl (Yd.pickF rfl rfl) (Seg.step rfl rfl (Yd.move rfl) (Seg.skip rfl rfl (Seg.skip rfl rfl (Seg.skip rfl rfl (Seg.skip rfl rfl (Seg.skip rfl rfl (Seg.step rfl rfl (Yd.pickF rfl rfl) ?_)))))))
          refine Seg.step rfl rfl (Yd.move rfl) (Seg.skip rfl rfl (Seg.skip rfl rfl (Seg.skip rfl rfl (Seg.skip rfl rfl (Seg.skip rfl rfl (Seg.step rfl rfl (Yd.pickF rfl rfl) (Seg.step rfl rfl (Yd.assign rfl) ?_)))))))
          refine Seg.nil (At.then_ (Cd.ret ?_))
          exact At.ret Tryz.results57 (.tmp rfl .nil) ⟨⟨false, rfl, by constructor <;> intro hk; (cases hk); (simp only [Rec.key, Prod.mk.injEq, List.cons.injEq, and_true] at hk; simp_all)⟩, hE0⟩
      · refine Seg.skip rfl rfl (Seg.skip rfl rfl (Seg.skip rfl rfl (Seg.skip rfl rfl (Seg.skip rfl rfl (Seg.step rfl rfl (Yd.pickF rfl rfl) (Seg.step rfl rfl (Yd.move rfl) (Seg.skip rfl rfl ?_)))))))
        refine Seg.skip rfl rfl (Seg.skip rfl rfl (Seg.skip rfl rfl (Seg.skip rfl rfl (Seg.step rfl rfl (Yd.pickF rfl rfl) (Seg.step rfl rfl (Yd.move rfl) (Seg.skip rfl rfl (Seg.skip rfl rfl ?_)))))))
        refine Seg.skip rfl rfl (Seg.skip rfl rfl (Seg.skip rfl rfl (Seg.step rfl rfl (Yd.pickF rfl rfl) (Seg.step rfl rfl (Yd.move rfl) (Seg.skip rfl rfl (Seg.skip rfl rfl (Seg.skip rfl rfl ?_)))))))
        refine Seg.skip rfl rfl (Seg.skip rfl rfl (Seg.step rfl rfl (Yd.pickF rfl rfl) (Seg.step rfl rfl (Yd.move rfl) (Seg.skip rfl rfl (Seg.skip rfl rfl (Seg.skip rfl rfl (Seg.skip rfl rfl ?_)))))))
        refine Seg.skip rfl rfl (Seg.step rfl rfl (Yd.pickF rfl rfl) (Seg.step rfl rfl (Yd.move rfl) (Seg.skip rfl rfl (Seg.skip rfl rfl (Seg.skip rfl rfl (Seg.skip rfl rfl (Seg.skip rfl rfl ?_)))))))
        refine Seg.step rfl rfl (Yd.pickF rfl rfl) (Seg.step rfl rfl (Yd.move rfl) (Seg.skip rfl rfl (Seg.skip rfl rfl (Seg.skip rfl rfl (Seg.skip rfl rfl (Seg.skip rfl rfl (Seg.step rfl rfl (Yd.pickF rfl rfl) ?_)))))))
        refine Seg.step rfl rfl (Yd.move rfl) (Seg.skip rfl rfl (Seg.skip rfl rfl (Seg.skip rfl rfl (Seg.skip rfl rfl (Seg.skip rfl rfl (Seg.step rfl rfl (Yd.pickF rfl rfl) (Seg.step rfl rfl (Yd.move rfl) ?_)))))))
        refine Seg.skip rfl rfl (Seg.skip rfl rfl (Seg.skip rfl rfl (Seg.skip rfl rfl (Seg.skip rfl rfl (Seg.step rfl rfl (Yd.pickF rfl rfl) (Seg.step rfl rfl (Yd.assign rfl) (Seg.nil ?_)))))))
        refine At.then_ (Cd.ret ?_)
        exact At.ret Tryz.results57 (.tmp rfl .nil) ⟨⟨false, rfl, by constructor <;> intro hk; (cases hk); (simp only [Rec.key, Prod.mk.injEq, List.cons.injEq, and_true] at hk; simp_all)⟩, hE0⟩
    · refine Seg.skip rfl rfl (Seg.skip rfl rfl (Seg.skip rfl rfl (Seg.skip rfl rfl (Seg.skip rfl rfl (Seg.step rfl rfl (Yd.pickF rfl rfl) (Seg.step rfl rfl (Yd.move rfl) (Seg.skip rfl rfl ?_)))))))
      refine Seg.skip rfl rfl (Seg.skip rfl rfl (Seg.skip rfl rfl (Seg.skip rfl rfl (Seg.step rfl rfl (Yd.pickF rfl rfl) (Seg.step rfl rfl (Yd.move rfl) (Seg.skip rfl rfl (Seg.skip rfl rfl ?_)))))))
      refine Seg.skip rfl rfl (Seg.skip rfl rfl (Seg.skip rfl rfl (Seg.step rfl rfl (Yd.pickF rfl rfl) (Seg.step rfl rfl (Yd.move rfl) (Seg.skip rfl rfl (Seg.skip rfl rfl (Seg.skip rfl rfl ?_)))))))
      refine Seg.skip rfl rfl (Seg.skip rfl rfl (Seg.step rfl rfl (Yd.pickF rfl rfl) (Seg.step rfl rfl (Yd.move rfl) (Seg.skip rfl rfl (Seg.skip rfl rfl (Seg.skip rfl rfl (Seg.skip rfl rfl ?_)))))))
      refine Seg.skip rfl rfl (Seg.step rfl rfl (Yd.pickF rfl rfl) (Seg.step rfl rfl (Yd.move rfl) (Seg.skip rfl rfl (Seg.skip rfl rfl (Seg.skip rfl rfl (Seg.skip rfl rfl (Seg.skip rfl rfl ?_)))))))
      refine Seg.step rfl rfl (Yd.pickF rfl rfl) (Seg.step rfl rfl (Yd.move rfl) (Seg.skip rfl rfl (Seg.skip rfl rfl (Seg.skip rfl rfl (Seg.skip rfl rfl (Seg.skip rfl rfl (Seg.step rfl rfl (Yd.pickF rfl rfl) ?_)))))))
      refine Seg.step rfl rfl (Yd.move rfl) (Seg.skip rfl rfl (Seg.skip rfl rfl (Seg.skip rfl rfl (Seg.skip rfl rfl (Seg.skip rfl rfl (Seg.step rfl rfl (Yd.pickF rfl rfl) (Seg.step rfl rfl (Yd.move rfl) ?_)))))))
      refine Seg.skip rfl rfl (Seg.skip rfl rfl (Seg.skip rfl rfl (Seg.skip rfl rfl (Seg.skip rfl rfl (Seg.step rfl rfl (Yd.pickF rfl rfl) (Seg.step rfl rfl (Yd.move rfl) (Seg.skip rfl rfl ?_)))))))
      refine Seg.skip rfl rfl (Seg.skip rfl rfl (Seg.skip rfl rfl (Seg.skip rfl rfl (Seg.step rfl rfl (Yd.pickF rfl rfl) (Seg.step rfl rfl (Yd.assign rfl) (Seg.nil (At.then_ ?_)))))))
      refine Cd.ret ?_
      exact At.ret Tryz.results57 (.tmp rfl .nil) ⟨⟨false, rfl, by constructor <;> intro hk; (cases hk); (simp only [Rec.key, Prod.mk.injEq, List.cons.injEq, and_true] at hk; simp_all)⟩, hE0⟩
  · refine Seg.skip rfl rfl (Seg.skip rfl rfl (Seg.skip rfl rfl (Seg.skip rfl rfl (Seg.skip rfl rfl (Seg.step rfl rfl (Yd.pickF rfl rfl) (Seg.step rfl rfl (Yd.move rfl) (Seg.skip rfl rfl ?_)))))))
    refine Seg.skip rfl rfl (Seg.skip rfl rfl (Seg.skip rfl rfl (Seg.skip rfl rfl (Seg.step rfl rfl (Yd.pickF rfl rfl) (Seg.step rfl rfl (Yd.move rfl) (Seg.skip rfl rfl (Seg.skip rfl rfl ?_)))))))
    refine Seg.skip rfl rfl (Seg.skip rfl rfl (Seg.skip rfl rfl (Seg.step rfl rfl (Yd.pickF rfl rfl) (Seg.step rfl rfl (Yd.move rfl) (Seg.skip rfl rfl (Seg.skip rfl rfl (Seg.skip rfl rfl ?_)))))))
    refine Seg.skip rfl rfl (Seg.skip rfl rfl (Seg.step rfl rfl (Yd.pickF rfl rfl) (Seg.step rfl rfl (Yd.move rfl) (Seg.skip rfl rfl (Seg.skip rfl rfl (Seg.skip rfl rfl (Seg.skip rfl rfl ?_)))))))
    refine Seg.skip rfl rfl (Seg.step rfl rfl (Yd.pickF rfl rfl) (Seg.step rfl rfl (Yd.move rfl) (Seg.skip rfl rfl (Seg.skip rfl rfl (Seg.skip rfl rfl (Seg.skip rfl rfl (Seg.skip rfl rfl ?_)))))))
    refine Seg.step rfl rfl (Yd.pickF rfl rfl) (Seg.step rfl rfl (Yd.move rfl) (Seg.skip rfl rfl (Seg.skip rfl rfl (Seg.skip rfl rfl (Seg.skip rfl rfl (Seg.skip rfl rfl (Seg.step rfl rfl (Yd.pickF rfl rfl) ?_)))))))
    refine Seg.step rfl rfl (Yd.move rfl) (Seg.skip rfl rfl (Seg.skip rfl rfl (Seg.skip rfl rfl (Seg.skip rfl rfl (Seg.skip rfl rfl (Seg.step rfl rfl (Yd.pickF rfl rfl) (Seg.step rfl rfl (Yd.move rfl) ?_)))))))
    refine Seg.skip rfl rfl (Seg.skip rfl rfl (Seg.skip rfl rfl (Seg.skip rfl rfl (Seg.skip rfl rfl (Seg.step rfl rfl (Yd.pickF rfl rfl) (Seg.step rfl rfl (Yd.move rfl) (Seg.skip rfl rfl ?_)))))))
    refine Seg.skip rfl rfl (Seg.skip rfl rfl (Seg.skip rfl rfl (Seg.skip rfl rfl (Seg.step rfl rfl (Yd.pickF rfl rfl) (Seg.step rfl rfl (Yd.move rfl) (Seg.skip rfl rfl (Seg.skip rfl rfl ?_)))))))
    refine Seg.skip rfl rfl (Seg.skip rfl rfl (Seg.skip rfl rfl (Seg.step rfl rfl (Yd.pickF rfl rfl) (Seg.step rfl rfl (Yd.assign rfl) (Seg.nil (At.then_ (Cd.ret ?_)))))))
    exact At.ret Tryz.results57 (.tmp rfl .nil) ⟨⟨false, rfl, by constructor <;> intro hk; (cases hk); (simp only [Rec.key, Prod.mk.injEq, List.cons.injEq, and_true] at hk; simp_all)⟩, hE0⟩
def keys (rs : List Rec) : List (( List (List UInt8) × List (List UInt8) × List (List UInt8)) × (List Int × (Int × Int × List Int) × List Int) × List UInt8) := rs.map Rec.key
theorem keys_get {rs ss : List Rec} (h : keys rs = keys ss) {i : Nat} {r s : Rec} (hr : rs[i]? = some r) (hs : ss[i]? = some s) : r.key = s.key := by
  have := congrArg (·[i]?) h
  simp only [keys, List.getElem?_map, hr, hs, Option.map_some, Option.some.injEq] at this
  exact this
theorem keys_of {rs ss : List Rec} (hl : rs.length = ss.length) (h : ∀ i r s, i < rs.length → rs[i]? = some r → ss[i]? = some s → r.key = s.key) : keys rs = keys ss := by
  refine List.ext_getElem? fun i => ?_
  simp only [keys, List.getElem?_map]
  rcases Nat.lt_or_ge i rs.length with hi | hi
  · rw [List.getElem?_eq_getElem hi, List.getElem?_eq_getElem (by omega)]
    simp only [Option.map_some]
    rw [h i rs[i] (ss[i]'(by omega)) hi (List.getElem?_eq_getElem hi) (List.getElem?_eq_getElem (by omega))]
  · rw [List.getElem?_eq_none hi, List.getElem?_eq_none (by omega)]
theorem bool_of (p : Prop) : ∃ b : Bool, b = true ↔ p := by
  by_cases h : p
  · exact ⟨true, by simp [h]⟩
  · exact ⟨false, by simp [h]⟩
theorem bool_iff {p : Prop} {a b : Bool} (ha : a = true ↔ p) (hb : b = true ↔ p) : a = b := by rw [Bool.eq_iff_iff, ha, hb]
theorem keys_len {rs ss : List Rec} (h : keys rs = keys ss) : rs.length = ss.length := by simpa [keys] using congrArg List.length h
set_option maxHeartbeats 400000 in
theorem sameRRs (rs ss : List Rec) (v0 v1 : Value) (w : World) (h0 : RecsAt w v0 rs) (h1 : RecsAt w v1 ss) (hf : ∀ r ∈ rs, FitR r) (hw : ∀ r ∈ rs, WfR r) (hws : ∀ r ∈ ss, WfR r) (hl : rs.length ≤ 1000) :
    Ret Tryz.prog 35 #[v0, v1] w fun v w' => (∃ b : Bool, v = .bool b ∧ (b = true ↔ keys rs = keys ss)) ∧ Ext w w' := by
  have hE0 := Ext.refl w
  obtain ⟨⟨ao, c, rfl, hl0, hr0, hz0⟩, hrec⟩ := h0
  obtain ⟨⟨ao', c', rfl, hl0', hr0', hz0'⟩, hrec'⟩ := h1
  refine Ret.body Tryz.func35 rfl Tryz.ntmps35 rfl (Cd.seq (Cd.region (Seg.step rfl rfl (Yd.assign rfl) (Seg.nil (At.then_ (Cd.seq (Cd.seq ?_)))))))
  refine Cd.region (Seg.step rfl rfl (Yd.move rfl) (Seg.step rfl rfl (Yd.lenS rfl rfl) (Seg.step rfl rfl (Yd.move rfl) (Seg.step rfl rfl (Yd.lenS rfl rfl) (Seg.step rfl rfl (Yd.neq rfl rfl) (Seg.nil (At.then_ ?_)))))))
  refine Cd.condk rfl (fun h16 => ?_) (fun h16 => ?_)
  · refine Cd.seq (Cd.region (Seg.step rfl rfl (Yd.assign rfl) (Seg.nil (At.then_ (Cd.ret (At.then_ret ?_))))))
    exact At.ret Tryz.results35 (.tmp rfl .nil) ⟨⟨false, rfl, by constructor <;> intro hk; (cases hk); (have := keys_len hk; omega)⟩, hE0⟩
  refine Cd.skip (At.then_ (Cd.seq (Cd.seq (Cd.region (Seg.step rfl rfl (Yd.assign rfl) (Seg.nil (At.then_ ?_)))))))
  refine Cd.block ?_
  have hlen : rs.length = ss.length := by omega
  refine Cd.loop (σ := Nat) (fun s => [(0, .slice ao rs.length c), (1, .slice ao' ss.length c'), (5, .int .i64 s)])
    (fun s w' => s ≤ rs.length ∧ (∀ i r s', i < s → rs[i]? = some r → ss[i]? = some s' → r.key = s'.key) ∧ Ext w w') (fun s => rs.length - s) 0 (.cons rfl (.cons rfl (.cons rfl (.nil _)))) ⟨Nat.zero_le _, fun _ _ _ h => absurd h (Nat.not_lt_zero _), hE0⟩ ?_
  clear hE0
  rintro i w0 ⟨hi, hT, hE0⟩
  by_cases hlt : i < rs.length
  · obtain ⟨a, rfl⟩ : ∃ a, ao = some a := by
      cases ao with
      | none => have := hz0 rfl; omega
      | some a => exact ⟨a, rfl⟩
    obtain ⟨a', rfl⟩ : ∃ a, ao' = some a := by
      cases ao' with
      | none => have := hz0' rfl; omega
      | some a => exact ⟨a, rfl⟩
    obtain ⟨r, hri⟩ : ∃ r, rs[i]? = some r := ⟨_, List.getElem?_eq_getElem hlt⟩
    obtain ⟨s, hsi⟩ : ∃ s, ss[i]? = some s := ⟨_, List.getElem?_eq_getElem (by omega)⟩
    have hmem := List.mem_of_getElem? hri
    have hmem' := List.mem_of_getElem? hsi
    have hrow := recs_part (hr0 a rfl) hri
    have hrow' := recs_part (hr0' a' rfl) hsi
    obtain ⟨b1, k1⟩ := bool_of (r.key = s.key)
    refine Cd.seq (Cd.seq (Cd.region (Seg.step rfl rfl (Yd.move rfl) (Seg.step rfl rfl (Yd.move rfl) (Seg.step rfl rfl (Yd.lenS rfl rfl) (Seg.step rfl rfl (Yd.lss rfl rfl) (Seg.nil ?_)))))))
    refine At.then_ ?_
    refine Cd.condk rfl (fun h26 => ?_) (fun h26 => ?_)
    · refine Cd.skip (At.then_ (Cd.seq (Cd.block (Cd.seq (Cd.quiet (by kernel_rfl) (by kernel_rfl) (SegQ.step rfl rfl (fun w' hw' => Yd.move rfl) (SegQ.step rfl rfl (fun w' hw' => Yd.move rfl) ?_)))))))
      refine SegQ.step rfl rfl (fun w' hw' => Yd.indexAddr rfl rfl rfl (NatOf.cast _) (by omega)) (SegQ.step rfl rfl (fun w' hw' => Yd.loadN rfl rfl rfl (hrow.ext (hE0.trans hw'))) (SegQ.step rfl rfl (fun w' hw' => Yd.move rfl) (SegQ.step rfl rfl (fun w' hw' => Yd.move rfl) (SegQ.step rfl rfl (fun w' hw' => Yd.indexAddr rfl rfl rfl (NatOf.cast _) (by omega)) (SegQ.step rfl rfl (fun w' hw' => Yd.loadN rfl rfl rfl (hrow'.ext (hE0.trans hw'))) (SegQ.call rfl rfl (own_of rfl) rfl (v := .bool b1) (fun w1 hE1 => (same13 r s w1 ((hrec r hmem).ext (hE0.trans hE1)) ((hrec' s hmem').ext (hE0.trans hE1)) (hf r hmem) (hw r hmem) (hws s hmem')).mono fun v w2 ⟨⟨b, hv, hb⟩, hE⟩ => ⟨by rw [hv, bool_iff hb k1], hE1.trans hE⟩) (SegQ.step rfl rfl (fun w' hw' => Yd.not rfl) ?_)))))))
      refine SegQ.nil fun w44 hE44 => ?_
      replace hE0 := Ext.trans hE0 hE44
      refine At.then_ ?_
      refine Cd.condkb rfl (fun h46 => ?_) (fun h46 => ?_)
      · refine Cd.seq (Cd.region (Seg.step rfl rfl (Yd.assign rfl) (Seg.nil (At.then_ (Cd.ret (At.blk_ret (At.then_ret ?_)))))))
        refine At.then_ret (At.blk_ret (At.then_ret ?_))
        exact At.ret Tryz.results35 (.tmp rfl .nil) ⟨⟨false, rfl, by constructor <;> intro hk; (cases hk); (have := k1.2 (keys_get hk hri hsi); have := (by assumption : (!b1) = true); simp_all)⟩, hE0⟩
      · refine Cd.skip (At.blk (At.then_ (Cd.region (Seg.step rfl rfl (Yd.move rfl) (Seg.step rfl rfl (Yd.addI rfl rfl (by omega)) (Seg.step rfl rfl (Yd.assign rfl) (Seg.nil ?_)))))))
        exact At.round (i + 1) (.cons rfl (.cons rfl (.cons rfl (.nil _)))) ⟨by omega, (fun j x y hj hx hy => by rcases Nat.lt_succ_iff_lt_or_eq.1 hj with hj | rfl; (exact hT j x y hj hx hy); (rw [hri] at hx; rw [hsi] at hy; cases hx; cases hy; exact k1.1 (by have := (by assumption : (!b1) = false); simpa using this))), hE0⟩ (by show _ - _ < _ - _; omega)
    · exfalso; omega
  · obtain rfl : i = rs.length := by omega
    refine Cd.seq (Cd.seq (Cd.region (Seg.step rfl rfl (Yd.move rfl) (Seg.step rfl rfl (Yd.move rfl) (Seg.step rfl rfl (Yd.lenS rfl rfl) (Seg.step rfl rfl (Yd.lss rfl rfl) (Seg.nil ?_)))))))
    refine At.then_ ?_
    refine Cd.condk rfl (fun h26 => ?_) (fun h26 => ?_)
    · exfalso; omega
    · refine Cd.exit (At.then_exit (At.then_exit (At.blk_same (At.then_ (Cd.seq (Cd.region (Seg.step rfl rfl (Yd.assign rfl) ?_)))))))
      refine Seg.nil (At.then_ (Cd.ret ?_))
      exact At.ret Tryz.results35 (.tmp rfl .nil) ⟨⟨true, rfl, by constructor <;> intro hk; (exact keys_of hlen hT); rfl⟩, hE0⟩
end Go.Proofs.YtahpiaaffeiadaaGreat
