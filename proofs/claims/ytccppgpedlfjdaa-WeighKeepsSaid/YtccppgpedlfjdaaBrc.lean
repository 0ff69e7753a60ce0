/- Records: their cells, and whether they are small; the walks. -/
import Derived.Test.YtccppgpedlfjdaaBna
import Derived.Test.YtccppgpedlfjdaaWki
namespace Go.Proofs.Ytccppgpedlfjdaa
open Go Go.RowKit
structure Rec where
  nm : List (List UInt8)
  tg : List (List UInt8)
  ml : List (List UInt8)
  vn : Value
  vt : Value
  vm : Value
  ty : Int
  cl : Int
  ttl : Int
  fam : Int
  zone : Int
  pri : Int
  wt : Int
  pt : Int
  raw : List UInt8
  i0 : Int
  i1 : Int
  i2 : Int
  i3 : Int
  i4 : Int
  i5 : Int
  i6 : Int
  i7 : Int
  i8 : Int
  i9 : Int
  i10 : Int
  i11 : Int
  i12 : Int
  i13 : Int
  i14 : Int
  i15 : Int
  m0 : Int
  m1 : Int
  m2 : Int
  m3 : Int
  m4 : Int
def Rec.cells (r : Rec) : List Value := [r.vn, .int .i64 r.ty, .int .i64 r.cl, .int .i64 r.ttl, .int .i64 r.fam, .int .u8 r.i0, .int .u8 r.i1, .int .u8 r.i2, .int .u8 r.i3, .int .u8 r.i4, .int .u8 r.i5, .int .u8 r.i6, .int .u8 r.i7, .int .u8 r.i8, .int .u8 r.i9, .int .u8 r.i10, .int .u8 r.i11, .int .u8 r.i12, .int .u8 r.i13, .int .u8 r.i14, .int .u8 r.i15, .int .i64 r.zone, r.vt, r.vm, .int .i64 r.pri, .int .i64 r.wt, .int .i64 r.pt, .int .i64 r.m0, .int .i64 r.m1, .int .i64 r.m2, .int .i64 r.m3, .int .i64 r.m4, .string ⟨r.raw.toArray⟩]
def RecAt (w : World) (r : Rec) : Prop := NameAt w r.vn r.nm ∧ NameAt w r.vt r.tg ∧ NameAt w r.vm r.ml
def FitR (r : Rec) : Prop := Fit r.nm ∧ Fit r.tg ∧ Fit r.ml ∧ r.raw.length ≤ 70000
def HeldR (r : Rec) : Prop := Held r.nm ∧ Held r.tg ∧ Held r.ml ∧ r.raw.length ≤ 140737488351232
theorem RecAt.ext {w w' : World} {r : Rec} (h : RecAt w r) (hE : Ext w w') : RecAt w' r := ⟨h.1.ext hE, h.2.1.ext hE, h.2.2.ext hE⟩
theorem small13 (r : Rec) (w : World) (hr : RecAt w r) (hh : HeldR r) : Ret Try.prog 21 #[.agg r.cells.toArray] w fun v w' => (∃ b : Bool, v = .bool b ∧ (b = true → FitR r)) ∧ Ext w w' := by
  have hE0 := Ext.refl w
  refine Ret.body Try.func21 rfl Try.ntmps21 rfl ?_
  refine Cd.seq ?_
  refine Cd.region ?_
  refine Seg.box rfl rfl rfl (fun w3 b3 hE3 hB3 hb3 => ?_)
  have hlt3_0 := Nat.le_trans hE0.size hb3
  replace hr := hr.ext hE3
  replace hE0 := Ext.trans hE0 hE3
  refine Seg.step rfl rfl (Yd.assign rfl) ?_
  refine Seg.nil ?_
  refine At.then_ ?_
  refine Cd.seq ?_
  refine Cd.region ?_
  refine Seg.step rfl rfl (Yd.fieldAddr rfl rfl) ?_
  refine Seg.step rfl rfl (Yd.load1 rfl rfl (hB3.row _ _ rfl)) ?_
  (refine Seg.call rfl rfl (own_of rfl) rfl (few_any r.nm r.vn _ hr.1 hh.1) ?_; rintro _ w11 ⟨⟨p1, rfl, k1⟩, hE11⟩)
  replace hE3 := Ext.trans hE3 hE11
  replace hB3 := hB3.ext hE11
  replace hr := hr.ext hE11
  replace hE0 := Ext.trans hE0 hE11
  refine Seg.step rfl rfl (Yd.move rfl) ?_
  refine Seg.gsplit rfl rfl (fun h13 => ?_) (fun h13 => ?_)
  · refine Seg.step rfl rfl (Yd.fieldAddr rfl rfl) ?_
    refine Seg.step rfl rfl (Yd.load1 rfl rfl (hB3.row _ _ rfl)) ?_
    (refine Seg.call rfl rfl (own_of rfl) rfl (few_any r.tg r.vt _ hr.2.1 hh.2.1) ?_; rintro _ w17 ⟨⟨p2, rfl, k2⟩, hE17⟩)
    replace hE11 := Ext.trans hE11 hE17
    replace hE3 := Ext.trans hE3 hE17
    replace hB3 := hB3.ext hE17
    replace hr := hr.ext hE17
    replace hE0 := Ext.trans hE0 hE17
    refine Seg.step rfl rfl (Yd.pickT rfl rfl) ?_
    refine Seg.step rfl rfl (Yd.move rfl) ?_
    refine Seg.gsplit rfl rfl (fun h20 => ?_) (fun h20 => ?_)
    · refine Seg.step rfl rfl (Yd.fieldAddr rfl rfl) ?_
      refine Seg.step rfl rfl (Yd.load1 rfl rfl (hB3.row _ _ rfl)) ?_
      (refine Seg.call rfl rfl (own_of rfl) rfl (few_any r.ml r.vm _ hr.2.2 hh.2.2.1) ?_; rintro _ w24 ⟨⟨p3, rfl, k3⟩, hE24⟩)
      replace hE17 := Ext.trans hE17 hE24
      replace hE11 := Ext.trans hE11 hE24
      replace hE3 := Ext.trans hE3 hE24
      replace hB3 := hB3.ext hE24
      replace hr := hr.ext hE24
      replace hE0 := Ext.trans hE0 hE24
      refine Seg.step rfl rfl (Yd.pickT rfl rfl) ?_
      refine Seg.step rfl rfl (Yd.move rfl) ?_
      refine Seg.gsplit rfl rfl (fun h27 => ?_) (fun h27 => ?_)
      · refine Seg.step rfl rfl (Yd.fieldAddr rfl rfl) ?_
        refine Seg.step rfl rfl (Yd.load1 rfl rfl (hB3.row _ _ rfl)) ?_
        refine Seg.step rfl rfl (Yd.lenStr rfl rfl) ?_
        refine Seg.step rfl rfl (Yd.leq rfl rfl) ?_
        refine Seg.step rfl rfl (Yd.pickT rfl rfl) ?_
        refine Seg.step rfl rfl (Yd.assign rfl) ?_
        refine Seg.nil ?_
        refine At.then_ ?_
        refine Cd.ret ?_
        exact At.ret Try.results21 (.tmp rfl .nil) ⟨⟨_, rfl, fun h => ⟨k1 (by assumption), k2 (by assumption), k3 (by assumption), by have := of_decide_eq_true h; omega⟩⟩, hE0⟩
      · refine Seg.skip rfl rfl ?_
        refine Seg.skip rfl rfl ?_
        refine Seg.skip rfl rfl ?_
        refine Seg.skip rfl rfl ?_
        refine Seg.step rfl rfl (Yd.pickF rfl rfl) ?_
        refine Seg.step rfl rfl (Yd.assign rfl) ?_
        refine Seg.nil ?_
        refine At.then_ ?_
        refine Cd.ret ?_
        exact At.ret Try.results21 (.tmp rfl .nil) ⟨⟨false, rfl, fun h => (by cases h)⟩, hE0⟩
    · refine Seg.skip rfl rfl ?_
      refine Seg.skip rfl rfl ?_
      refine Seg.skip rfl rfl ?_
      refine Seg.step rfl rfl (Yd.pickF rfl rfl) ?_
      refine Seg.step rfl rfl (Yd.move rfl) ?_
      refine Seg.skip rfl rfl ?_
      refine Seg.skip rfl rfl ?_
      refine Seg.skip rfl rfl ?_
      refine Seg.skip rfl rfl ?_
      refine Seg.step rfl rfl (Yd.pickF rfl rfl) ?_
      refine Seg.step rfl rfl (Yd.assign rfl) ?_
      refine Seg.nil ?_
      refine At.then_ ?_
      refine Cd.ret ?_
      exact At.ret Try.results21 (.tmp rfl .nil) ⟨⟨false, rfl, fun h => (by cases h)⟩, hE0⟩
  · refine Seg.skip rfl rfl ?_
    refine Seg.skip rfl rfl ?_
    refine Seg.skip rfl rfl ?_
    refine Seg.step rfl rfl (Yd.pickF rfl rfl) ?_
    refine Seg.step rfl rfl (Yd.move rfl) ?_
    refine Seg.skip rfl rfl ?_
    refine Seg.skip rfl rfl ?_
    refine Seg.skip rfl rfl ?_
    refine Seg.step rfl rfl (Yd.pickF rfl rfl) ?_
    refine Seg.step rfl rfl (Yd.move rfl) ?_
    refine Seg.skip rfl rfl ?_
    refine Seg.skip rfl rfl ?_
    refine Seg.skip rfl rfl ?_
    refine Seg.skip rfl rfl ?_
    refine Seg.step rfl rfl (Yd.pickF rfl rfl) ?_
    refine Seg.step rfl rfl (Yd.assign rfl) ?_
    refine Seg.nil ?_
    refine At.then_ ?_
    refine Cd.ret ?_
    exact At.ret Try.results21 (.tmp rfl .nil) ⟨⟨false, rfl, fun h => (by cases h)⟩, hE0⟩

/-- Records as cells. -/
def recsV (rs : List Rec) : List Value := rs.flatMap Rec.cells
theorem cells_length (r : Rec) : r.cells.length = 33 := rfl
theorem recsV_length (rs : List Rec) : (recsV rs).length = rs.length * 33 := by
  induction rs with
  | nil => rfl
  | cons r rs ih => rw [recsV, List.flatMap_cons, List.length_append, cells_length, List.length_cons, Nat.succ_mul, ← recsV, ih]; omega
theorem recsV_append (a b : List Rec) : recsV (a ++ b) = recsV a ++ recsV b := List.flatMap_append
theorem recs_part {w : World} : ∀ {rs : List Rec} {a : Addr}, Row w a (recsV rs) → ∀ {i : Nat} {r : Rec}, rs[i]? = some r → Row w (a.add (i * 33)) r.cells
  | [], _, _, _, _, h => by simp at h
  | x :: rs, a, hR, 0, r, h => by
    obtain rfl : x = r := by simpa using h
    have := hR.take 33
    rw [recsV, List.flatMap_cons, List.take_left' (cells_length x)] at this
    rw [Nat.zero_mul, Addr.add0]
    exact this
  | x :: rs, a, hR, i + 1, r, h => by
    have h1 := hR.drop 33
    have h2 : (recsV (x :: rs)).drop 33 = recsV rs := by
      rw [recsV, List.flatMap_cons, List.drop_left' (cells_length x)]
      rfl
    rw [h2] at h1
    have := recs_part h1 (i := i) (r := r) (by simpa using h)
    rw [Deep.add_add] at this
    rwa [show 33 + i * 33 = (i + 1) * 33 by omega] at this
theorem recs_one (rs : List Rec) (h : ∀ r ∈ rs, r.vn.oneCell' = true ∧ r.vt.oneCell' = true ∧ r.vm.oneCell' = true) : ∀ c ∈ recsV rs, c.oneCell' = true := by
  intro c hc
  obtain ⟨r, hr, hc⟩ := List.mem_flatMap.1 hc
  obtain ⟨h1, h2, h3⟩ := h r hr
  simp only [Rec.cells, List.mem_cons, List.not_mem_nil, or_false] at hc
  rcases hc with rfl | rfl | rfl | rfl | rfl | rfl | rfl | rfl | rfl | rfl | rfl | rfl | rfl | rfl | rfl | rfl | rfl | rfl | rfl | rfl | rfl | rfl | rfl | rfl | rfl | rfl | rfl | rfl | rfl | rfl | rfl | rfl | rfl <;> first | rfl | assumption
/-- Records lie at v. -/
def RecsAt (w : World) (v : Value) (rs : List Rec) : Prop := Sl w 33 v rs.length (recsV rs) ∧ ∀ r ∈ rs, RecAt w r
theorem RecsAt.ext {w w' : World} {v : Value} {rs : List Rec} (h : RecsAt w v rs) (hE : Ext w w') : RecsAt w' v rs := ⟨h.1.ext hE, fun r hr => (h.2 r hr).ext hE⟩

theorem fits_succ {rs : List Rec} {i : Nat} {r : Rec} (hT : ∀ j r, j < i → rs[j]? = some r → FitR r) (hri : rs[i]? = some r) (hf : FitR r) : ∀ j r, j < i + 1 → rs[j]? = some r → FitR r := fun j r' hj hjr => by
  rcases Nat.lt_succ_iff_lt_or_eq.1 hj with hj | rfl
  · exact hT j r' hj hjr
  · rw [hri] at hjr
    cases hjr
    exact hf
theorem small26 (rs : List Rec) (v0 : Value) (w : World) (h0 : RecsAt w v0 rs) (hh : ∀ r ∈ rs, HeldR r) :
    Ret Try.prog 13 #[v0] w fun v w' => (∃ b : Bool, v = .bool b ∧ (b = true → rs.length ≤ 60 ∧ ∀ r ∈ rs, FitR r)) ∧ Ext w w' := by
  have hE0 := Ext.refl w
  obtain ⟨⟨ao, c, rfl, hl0, hr0, hz0⟩, hrec⟩ := h0
  refine Ret.body Try.func13 rfl Try.ntmps13 rfl ?_
  refine Cd.seq ?_
  refine Cd.region ?_
  refine Seg.step rfl rfl (Yd.assign rfl) ?_
  refine Seg.nil ?_
  refine At.then_ ?_
  refine Cd.seq ?_
  refine Cd.seq ?_
  refine Cd.region ?_
  refine Seg.step rfl rfl (Yd.move rfl) ?_
  refine Seg.step rfl rfl (Yd.lenS rfl rfl) ?_
  refine Seg.step rfl rfl (Yd.gtr rfl rfl) ?_
  refine Seg.nil ?_
  refine At.then_ ?_
  refine Cd.condk rfl (fun h14 => ?_) (fun h14 => ?_)
  · refine Cd.seq ?_
    refine Cd.region ?_
    refine Seg.step rfl rfl (Yd.assign rfl) ?_
    refine Seg.nil ?_
    refine At.then_ ?_
    refine Cd.ret ?_
    refine At.then_ret ?_
    exact At.ret Try.results13 (.tmp rfl .nil) ⟨⟨false, rfl, fun h => (by cases h)⟩, hE0⟩
  refine Cd.skip ?_
  refine At.then_ ?_
  refine Cd.seq ?_
  refine Cd.seq ?_
  refine Cd.region ?_
  refine Seg.step rfl rfl (Yd.assign rfl) ?_
  refine Seg.nil ?_
  refine At.then_ ?_
  refine Cd.block ?_
  refine Cd.loop (σ := Nat) (fun s => [(0, .slice ao rs.length c), (2, .bool false), (3, .int .i64 s)])
    (fun s w' => s ≤ rs.length ∧ (∀ j r, j < s → rs[j]? = some r → FitR r) ∧ Ext w w') (fun s => rs.length - s) 0 (.cons rfl (.cons rfl (.cons rfl (.nil _)))) ⟨Nat.zero_le _, fun _ _ h => absurd h (Nat.not_lt_zero _), hE0⟩ ?_
  clear hE0
  intro i w0 ⟨hi, hT, hE0⟩
  by_cases hlt : i < rs.length
  · obtain ⟨a, rfl⟩ : ∃ a, ao = some a := by
      cases ao with
      | none => have := hz0 rfl; omega
      | some a => exact ⟨a, rfl⟩
    obtain ⟨r, hri⟩ : ∃ r, rs[i]? = some r := ⟨_, List.getElem?_eq_getElem hlt⟩
    have hmem := List.mem_of_getElem? hri
    have hrow := recs_part (hr0 a rfl) hri
    refine Cd.seq ?_
    refine Cd.seq ?_
    refine Cd.region ?_
    refine Seg.step rfl rfl (Yd.move rfl) ?_
    refine Seg.step rfl rfl (Yd.move rfl) ?_
    refine Seg.step rfl rfl (Yd.lenS rfl rfl) ?_
    refine Seg.step rfl rfl (Yd.lss rfl rfl) ?_
    refine Seg.nil ?_
    refine At.then_ ?_
    refine Cd.condk rfl (fun h24 => ?_) (fun h24 => ?_)
    · refine Cd.skip ?_
      refine At.then_ ?_
      refine Cd.seq ?_
      refine Cd.block ?_
      refine Cd.seq ?_
      refine Cd.region ?_
      refine Seg.step rfl rfl (Yd.move rfl) ?_
      refine Seg.step rfl rfl (Yd.move rfl) ?_
      refine Seg.step rfl rfl (Yd.indexAddr rfl rfl rfl (NatOf.cast _) (by omega)) ?_
      refine Seg.step rfl rfl (Yd.loadN rfl rfl rfl (hrow.ext hE0)) ?_
      (refine Seg.call rfl rfl (own_of rfl) rfl (small13 r _ ((hrec r hmem).ext hE0) (hh r hmem)) ?_; rintro _ w36 ⟨⟨p1, rfl, k1⟩, hE36⟩)
      replace hE0 := Ext.trans hE0 hE36
      refine Seg.step rfl rfl (Yd.not rfl) ?_
      refine Seg.nil ?_
      refine At.then_ ?_
      refine Cd.condkb rfl (fun h40 => ?_) (fun h40 => ?_)
      · refine Cd.seq ?_
        refine Cd.region ?_
        refine Seg.step rfl rfl (Yd.assign rfl) ?_
        refine Seg.nil ?_
        refine At.then_ ?_
        refine Cd.ret ?_
        refine At.blk_ret ?_
        refine At.then_ret ?_
        refine At.then_ret ?_
        refine At.blk_ret ?_
        refine At.then_ret ?_
        exact At.ret Try.results13 (.tmp rfl .nil) ⟨⟨false, rfl, fun h => (by cases h)⟩, hE0⟩
      · refine Cd.skip ?_
        refine At.blk ?_
        refine At.then_ ?_
        refine Cd.region ?_
        refine Seg.step rfl rfl (Yd.move rfl) ?_
        refine Seg.step rfl rfl (Yd.addI rfl rfl (by omega)) ?_
        refine Seg.step rfl rfl (Yd.assign rfl) ?_
        refine Seg.nil ?_
        exact At.round (i + 1) (.cons rfl (.cons rfl (.cons rfl (.nil _)))) ⟨by omega, fits_succ hT hri (k1 (by first | assumption | (have := (by assumption : (!_) = false); simpa using this))), hE0⟩ (by show _ - _ < _ - _; omega)
    · exfalso; omega
  · obtain rfl : i = rs.length := by omega
    refine Cd.seq ?_
    refine Cd.seq ?_
    refine Cd.region ?_
    refine Seg.step rfl rfl (Yd.move rfl) ?_
    refine Seg.step rfl rfl (Yd.move rfl) ?_
    refine Seg.step rfl rfl (Yd.lenS rfl rfl) ?_
    refine Seg.step rfl rfl (Yd.lss rfl rfl) ?_
    refine Seg.nil ?_
    refine At.then_ ?_
    refine Cd.condk rfl (fun h24 => ?_) (fun h24 => ?_)
    · exfalso; omega
    · refine Cd.exit ?_
      refine At.then_exit ?_
      refine At.then_exit ?_
      refine At.blk_same ?_
      refine At.then_ ?_
      refine Cd.seq ?_
      refine Cd.region ?_
      refine Seg.step rfl rfl (Yd.assign rfl) ?_
      refine Seg.nil ?_
      refine At.then_ ?_
      refine Cd.ret ?_
      exact At.ret Try.results13 (.tmp rfl .nil) ⟨⟨true, rfl, fun _ => ⟨by omega, fun r hr => (by obtain ⟨j, hj⟩ := List.getElem?_of_mem hr; exact hT j r (List.getElem?_eq_some_iff.1 hj).1 hj)⟩⟩, hE0⟩
end Go.Proofs.Ytccppgpedlfjdaa
