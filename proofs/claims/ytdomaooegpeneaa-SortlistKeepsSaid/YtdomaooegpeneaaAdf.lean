/- The place of an address in a list of prefixes. -/
import Derived.Test.YtdomaooegpeneaaAde
import Derived.Test.YtdomaooegpeneaaWkm
namespace Go.Proofs.Ytdomaooegpeneaa
open Go Go.RowKit
noncomputable def placeOf (ps : List El) (a : Adr) : Nat := ps.findIdx (fun p => decide (within a p))
theorem place_at {ps : List El} {a : Adr} {i : Nat} {p : El} (h : ∀ j q, j < i → ps[j]? = some q → ¬ within a q) (hi : ps[i]? = some p) (hw : within a p) : placeOf ps a = i := by
  obtain ⟨hl, he⟩ := List.getElem?_eq_some_iff.1 hi
  unfold placeOf
  rw [List.findIdx_eq hl]
  refine ⟨by rw [he]; exact decide_eq_true hw, fun j hj => ?_⟩
  exact decide_eq_false (h j _ hj (List.getElem?_eq_getElem (by omega)))
theorem place_end {ps : List El} {a : Adr} {i : Nat} (h : ∀ j q, j < i → ps[j]? = some q → ¬ within a q) (hi : ps.length ≤ i) : placeOf ps a = ps.length := by
  unfold placeOf
  rw [List.findIdx_eq_length]
  intro p hp
  obtain ⟨j, hj, he⟩ := List.getElem_of_mem hp
  exact decide_eq_false (h j p (by omega) (by rw [← he]; exact List.getElem?_eq_getElem hj))
theorem place_le (ps : List El) (a : Adr) : placeOf ps a ≤ ps.length := List.findIdx_le_length
def PfxAt (w : World) (v : Value) (ps : List El) : Prop := Sl w 19 v ps.length (ps.flatMap cel)
theorem place6 (ps : List El) (a : Adr) (v : Value) (w : World) (h : PfxAt w v ps) (hp : ∀ p ∈ ps, WfA p.1) (ha : WfA a) (hl : ps.length ≤ 1000) :
    Ret Try.prog 6 #[v, .agg a.cells.toArray] w fun r w' => r = .int .i64 (placeOf ps a : Nat) ∧ Ext w w' := by
  have hE0 := Ext.refl w
  obtain ⟨ao, c, rfl, hl0, hr0, hz0⟩ := h
  refine Ret.body Try.func6 rfl Try.ntmps6 rfl ?_
  refine Cd.seq ?_
  refine Cd.region ?_
  refine Seg.box rfl rfl rfl (fun w3 b3 hE3 hB3 hb3 => ?_)
  have hlt3_0 := Nat.le_trans hE0.size hb3
  replace hE0 := Ext.trans hE0 hE3
  refine Seg.step rfl rfl (Yd.assign rfl) ?_
  refine Seg.nil ?_
  refine At.then_ ?_
  refine Cd.seq ?_
  refine Cd.seq ?_
  refine Cd.region ?_
  refine Seg.step rfl rfl (Yd.move rfl) ?_
  refine Seg.step rfl rfl (Yd.lenS rfl rfl) ?_
  refine Seg.step rfl rfl (Yd.move rfl) ?_
  refine Seg.nil ?_
  refine At.then_ ?_
  refine Cd.block ?_
  refine Cd.loop (σ := Nat) (fun i => [(0, .slice ao ps.length c), (3, .pointer (some ⟨b3, 0, none⟩)), (4, .int .i64 0), (7, .slice ao ps.length c), (8, .int .i64 (ps.length : Int)), (9, .int .i64 (i : Int))])
    (fun i w' => (i ≤ ps.length ∧ ∀ j q, j < i → ps[j]? = some q → ¬ within a q) ∧ Ext w w' ∧ Bx w' b3 a.cells) (fun i => ps.length - i) 0 (.cons rfl (.cons rfl (.cons rfl (.cons rfl (.cons rfl (.cons rfl (.nil _))))))) ⟨⟨Nat.zero_le _, fun _ _ h => absurd h (Nat.not_lt_zero _)⟩, by assumption, hB3⟩ ?_
  clear hB3
  rintro i w0 ⟨⟨hi, hall⟩, hE0, hB3⟩
  by_cases hlt : i < ps.length
  · obtain ⟨d, rfl⟩ : ∃ d, ao = some d := by
      cases ao with
      | none => have := hz0 rfl; omega
      | some d => exact ⟨d, rfl⟩
    obtain ⟨p, hpi⟩ : ∃ p, ps[i]? = some p := ⟨_, List.getElem?_eq_getElem hlt⟩
    have hpw := hp p (List.mem_of_getElem? hpi)
    have hrow : Row w (Addr.add d (i * 19)) (cel p) := flat_row (zs := []) celK (by simpa using hr0 d rfl) hpi
    have hrow' := hrow.ext hE0
    by_cases hwi : within a p
    · have hat := place_at hall hpi hwi
      have hwd : decide (within a p) = true := decide_eq_true hwi
      refine Cd.seq ?_
      refine Cd.region ?_
      refine Seg.step rfl rfl (Yd.lss rfl rfl) ?_
      refine Seg.nil ?_
      refine At.then_ ?_
      refine Cd.seq ?_
      refine Cd.condk rfl (fun h10 => ?_) (fun h10 => ?_)
      · refine Cd.skip ?_
        refine At.then_ ?_
        refine Cd.seq ?_
        refine Cd.block ?_
        refine Cd.seq ?_
        refine Cd.region ?_
        refine Seg.step rfl rfl (Yd.move rfl) ?_
        refine Seg.step rfl rfl (Yd.indexAddr rfl rfl rfl (NatOf.cast _) (by omega)) ?_
        refine Seg.step rfl rfl (Yd.loadN rfl rfl rfl hrow') ?_
        refine Seg.alloc rfl rfl rfl (fun w21 b21 hE21 hB21 hb21 => ?_)
        have hlt21_0 := Nat.le_trans hE0.size hb21
        have hlt21_1 := Nat.lt_of_lt_of_le hB3.lt hb21
        replace hE0 := Ext.trans hE0 hE21
        replace hB3 := hB3.ext hE21
        replace hrow' := hrow'.ext hE21
        refine Seg.step rfl rfl (Yd.assign rfl) ?_
        refine Seg.storeN rfl rfl rfl rfl hB21 rfl (by first | assumption | exact List.all_eq_true.1 rfl) (fun w23 hW23 hB23 => ?_)
        clear hB21
        replace hE21 := Ext.wr' hE21 hW23 (by omega)
        replace hE0 := Ext.wr' hE0 hW23 (by omega)
        replace hB3 := hB3.wr hW23 (by omega)
        refine Seg.nil ?_
        refine At.then_ ?_
        refine Cd.seq ?_
        refine Cd.region ?_
        refine Seg.step rfl rfl (Yd.loadN rfl rfl rfl hB3.row) ?_
        refine Seg.step rfl rfl (Yd.loadN rfl rfl rfl hB23.row) ?_
        (refine Seg.call rfl rfl (own_of rfl) rfl (within12 a p _ ha hpw) ?_; rintro _ w30 ⟨rfl, hE30⟩; rw [hwd])
        replace hW23 := Wr.trans hW23 (Ext.wr hE30 _)
        replace hB23 := hB23.ext hE30
        replace hE21 := Ext.trans hE21 hE30
        replace hE0 := Ext.trans hE0 hE30
        replace hB3 := hB3.ext hE30
        refine Seg.nil ?_
        refine At.then_ ?_
        refine Cd.condT rfl ?_
        refine Cd.seq ?_
        refine Cd.region ?_
        refine Seg.step rfl rfl (Yd.move rfl) ?_
        refine Seg.step rfl rfl (Yd.assign rfl) ?_
        refine Seg.nil ?_
        refine At.then_ ?_
        refine Cd.ret ?_
        refine At.blk_ret ?_
        refine At.then_ret ?_
        refine At.then_ret ?_
        refine At.blk_ret ?_
        refine At.then_ret ?_
        exact At.ret Try.results6 (.tmp rfl .nil) ⟨by rw [hat]; rfl, by assumption⟩
      · exfalso; omega
    · have hwd : decide (within a p) = false := decide_eq_false hwi
      refine Cd.seq ?_
      refine Cd.region ?_
      refine Seg.step rfl rfl (Yd.lss rfl rfl) ?_
      refine Seg.nil ?_
      refine At.then_ ?_
      refine Cd.seq ?_
      refine Cd.condk rfl (fun h10 => ?_) (fun h10 => ?_)
      · refine Cd.skip ?_
        refine At.then_ ?_
        refine Cd.seq ?_
        refine Cd.block ?_
        refine Cd.seq ?_
        refine Cd.region ?_
        refine Seg.step rfl rfl (Yd.move rfl) ?_
        refine Seg.step rfl rfl (Yd.indexAddr rfl rfl rfl (NatOf.cast _) (by omega)) ?_
        refine Seg.step rfl rfl (Yd.loadN rfl rfl rfl hrow') ?_
        refine Seg.alloc rfl rfl rfl (fun w21 b21 hE21 hB21 hb21 => ?_)
        have hlt21_0 := Nat.le_trans hE0.size hb21
        have hlt21_1 := Nat.lt_of_lt_of_le hB3.lt hb21
        replace hE0 := Ext.trans hE0 hE21
        replace hB3 := hB3.ext hE21
        replace hrow' := hrow'.ext hE21
        refine Seg.step rfl rfl (Yd.assign rfl) ?_
        refine Seg.storeN rfl rfl rfl rfl hB21 rfl (by first | assumption | exact List.all_eq_true.1 rfl) (fun w23 hW23 hB23 => ?_)
        clear hB21
        replace hE21 := Ext.wr' hE21 hW23 (by omega)
        replace hE0 := Ext.wr' hE0 hW23 (by omega)
        replace hB3 := hB3.wr hW23 (by omega)
        refine Seg.nil ?_
        refine At.then_ ?_
        refine Cd.seq ?_
        refine Cd.region ?_
        refine Seg.step rfl rfl (Yd.loadN rfl rfl rfl hB3.row) ?_
        refine Seg.step rfl rfl (Yd.loadN rfl rfl rfl hB23.row) ?_
        (refine Seg.call rfl rfl (own_of rfl) rfl (within12 a p _ ha hpw) ?_; rintro _ w30 ⟨rfl, hE30⟩; rw [hwd])
        replace hW23 := Wr.trans hW23 (Ext.wr hE30 _)
        replace hB23 := hB23.ext hE30
        replace hE21 := Ext.trans hE21 hE30
        replace hE0 := Ext.trans hE0 hE30
        replace hB3 := hB3.ext hE30
        refine Seg.nil ?_
        refine At.then_ ?_
        refine Cd.condF rfl ?_
        refine Cd.skip ?_
        refine At.blk ?_
        refine At.then_ ?_
        refine Cd.region ?_
        refine Seg.step rfl rfl (Yd.addI rfl rfl (by omega)) ?_
        refine Seg.step rfl rfl (Yd.move rfl) ?_
        refine Seg.nil ?_
        exact At.round (i + 1) (.cons rfl (.cons rfl (.cons rfl (.cons rfl (.cons rfl (.cons rfl (.nil _))))))) ⟨⟨by omega, fun j q hj hq => by rcases Nat.lt_or_eq_of_le (Nat.le_of_lt_succ hj) with h | rfl; (exact hall j q h hq); (rw [hpi] at hq; cases hq; exact hwi)⟩, by assumption, by assumption⟩ (by omega)
      · exfalso; omega
  · have hat := place_end (a := a) hall (by omega)
    refine Cd.seq ?_
    refine Cd.region ?_
    refine Seg.step rfl rfl (Yd.lss rfl rfl) ?_
    refine Seg.nil ?_
    refine At.then_ ?_
    refine Cd.seq ?_
    refine Cd.condk rfl (fun h10 => ?_) (fun h10 => ?_)
    · exfalso; omega
    · refine Cd.exit ?_
      refine At.then_exit ?_
      refine At.then_exit ?_
      refine At.blk_same ?_
      refine At.then_ ?_
      refine Cd.seq ?_
      refine Cd.region ?_
      refine Seg.step rfl rfl (Yd.move rfl) ?_
      refine Seg.step rfl rfl (Yd.lenS rfl rfl) ?_
      refine Seg.step rfl rfl (Yd.assign rfl) ?_
      refine Seg.nil ?_
      refine At.then_ ?_
      refine Cd.ret ?_
      exact At.ret Try.results6 (.tmp rfl .nil) ⟨by rw [hat]; rfl, by assumption⟩
theorem place7 (ps : List El) (a : Adr) (v : Value) (w : World) (h : PfxAt w v ps) (hp : ∀ p ∈ ps, WfA p.1) (ha : WfA a) (hl : ps.length ≤ 1000) :
    Ret Try.prog 7 #[v, .agg a.cells.toArray] w fun r w' => r = .int .i64 (placeOf ps a : Nat) ∧ Ext w w' := by
  have hE0 := Ext.refl w
  obtain ⟨ao, c, rfl, hl0, hr0, hz0⟩ := h
  refine Ret.body Try.func7 rfl Try.ntmps7 rfl ?_
  refine Cd.seq ?_
  refine Cd.region ?_
  refine Seg.box rfl rfl rfl (fun w3 b3 hE3 hB3 hb3 => ?_)
  have hlt3_0 := Nat.le_trans hE0.size hb3
  replace hE0 := Ext.trans hE0 hE3
  refine Seg.step rfl rfl (Yd.assign rfl) ?_
  refine Seg.nil ?_
  refine At.then_ ?_
  refine Cd.seq ?_
  refine Cd.seq ?_
  refine Cd.region ?_
  refine Seg.step rfl rfl (Yd.assign rfl) ?_
  refine Seg.nil ?_
  refine At.then_ ?_
  refine Cd.block ?_
  refine Cd.loop (σ := Nat) (fun i => [(0, .slice ao ps.length c), (3, .pointer (some ⟨b3, 0, none⟩)), (4, .int .i64 0), (5, .int .i64 (i : Int))])
    (fun i w' => (i ≤ ps.length ∧ ∀ j q, j < i → ps[j]? = some q → ¬ within a q) ∧ Ext w w' ∧ Bx w' b3 a.cells) (fun i => ps.length - i) 0 (.cons rfl (.cons rfl (.cons rfl (.cons rfl (.nil _))))) ⟨⟨Nat.zero_le _, fun _ _ h => absurd h (Nat.not_lt_zero _)⟩, by assumption, hB3⟩ ?_
  clear hB3
  rintro i w0 ⟨⟨hi, hall⟩, hE0, hB3⟩
  by_cases hlt : i < ps.length
  · obtain ⟨d, rfl⟩ : ∃ d, ao = some d := by
      cases ao with
      | none => have := hz0 rfl; omega
      | some d => exact ⟨d, rfl⟩
    obtain ⟨p, hpi⟩ : ∃ p, ps[i]? = some p := ⟨_, List.getElem?_eq_getElem hlt⟩
    have hpw := hp p (List.mem_of_getElem? hpi)
    have hrow : Row w (Addr.add d (i * 19)) (cel p) := flat_row (zs := []) celK (by simpa using hr0 d rfl) hpi
    have hrow' := hrow.ext hE0
    by_cases hwi : within a p
    · have hat := place_at hall hpi hwi
      have hwd : decide (within a p) = true := decide_eq_true hwi
      refine Cd.seq ?_
      refine Cd.seq ?_
      refine Cd.region ?_
      refine Seg.step rfl rfl (Yd.move rfl) ?_
      refine Seg.step rfl rfl (Yd.move rfl) ?_
      refine Seg.step rfl rfl (Yd.lenS rfl rfl) ?_
      refine Seg.step rfl rfl (Yd.lss rfl rfl) ?_
      refine Seg.nil ?_
      refine At.then_ ?_
      refine Cd.condk rfl (fun h13 => ?_) (fun h13 => ?_)
      · refine Cd.skip ?_
        refine At.then_ ?_
        refine Cd.seq ?_
        refine Cd.block ?_
        refine Cd.seq ?_
        refine Cd.anyE (by kernel_rfl) (fun w20 hE20 => ?_)
        replace hE0 := Ext.trans hE0 hE20
        replace hB3 := hB3.ext hE20
        replace hrow' := hrow'.ext hE20
        refine SegA.pure 1 rfl (by kernel_rfl) (by kernel_rfl) (by kernel_rfl) rfl rfl (fun _ => Yd.move rfl) ?_
        refine SegA.pure 2 rfl (by kernel_rfl) (by kernel_rfl) (by kernel_rfl) rfl rfl (fun _ => Yd.move rfl) ?_
        refine SegA.pure 3 rfl (by kernel_rfl) (by kernel_rfl) (by kernel_rfl) rfl rfl (fun _ => Yd.indexAddr rfl rfl rfl (NatOf.cast _) (by omega)) ?_
        refine SegA.held 6 ?_
        refine SegG.take 0 rfl (by kernel_rfl) (by kernel_rfl) (by kernel_rfl) (by kernel_rfl) (by kernel_rfl) rfl rfl (fun w' hw' => Yd.loadN rfl rfl rfl (hB3.ext hw').row) ?_
        refine SegG.take 4 rfl (by kernel_rfl) (by kernel_rfl) (by kernel_rfl) (by kernel_rfl) (by kernel_rfl) rfl rfl (fun w' hw' => Yd.loadN rfl rfl rfl (hrow'.ext hw')) ?_
        refine SegG.oneSeg (o := ⟨_, _, _, _, _, _⟩) 5 rfl (by kernel_rfl) ?_
        (refine Seg.call rfl rfl (own_of rfl) rfl (within13 a p _ ha hpw) ?_; rintro _ w28 ⟨rfl, hE28⟩; rw [hwd])
        replace hE20 := Ext.trans hE20 hE28
        replace hE0 := Ext.trans hE0 hE28
        replace hB3 := hB3.ext hE28
        replace hrow' := hrow'.ext hE28
        refine SegG.back rfl (by first | assumption | exact Ext.refl _) ?_
        refine SegG.done (by kernel_rfl) ?_
        refine At.then_ ?_
        refine Cd.condT rfl ?_
        refine Cd.seq ?_
        refine Cd.region ?_
        refine Seg.step rfl rfl (Yd.move rfl) ?_
        refine Seg.step rfl rfl (Yd.assign rfl) ?_
        refine Seg.nil ?_
        refine At.then_ ?_
        refine Cd.ret ?_
        refine At.blk_ret ?_
        refine At.then_ret ?_
        refine At.then_ret ?_
        refine At.blk_ret ?_
        refine At.then_ret ?_
        exact At.ret Try.results7 (.tmp rfl .nil) ⟨by rw [hat]; rfl, by assumption⟩
      · exfalso; omega
    · have hwd : decide (within a p) = false := decide_eq_false hwi
      refine Cd.seq ?_
      refine Cd.seq ?_
      refine Cd.region ?_
      refine Seg.step rfl rfl (Yd.move rfl) ?_
      refine Seg.step rfl rfl (Yd.move rfl) ?_
      refine Seg.step rfl rfl (Yd.lenS rfl rfl) ?_
      refine Seg.step rfl rfl (Yd.lss rfl rfl) ?_
      refine Seg.nil ?_
      refine At.then_ ?_
      refine Cd.condk rfl (fun h13 => ?_) (fun h13 => ?_)
      · refine Cd.skip ?_
        refine At.then_ ?_
        refine Cd.seq ?_
        refine Cd.block ?_
        refine Cd.seq ?_
        refine Cd.anyE (by kernel_rfl) (fun w20 hE20 => ?_)
        replace hE0 := Ext.trans hE0 hE20
        replace hB3 := hB3.ext hE20
        replace hrow' := hrow'.ext hE20
        refine SegA.pure 1 rfl (by kernel_rfl) (by kernel_rfl) (by kernel_rfl) rfl rfl (fun _ => Yd.move rfl) ?_
        refine SegA.pure 2 rfl (by kernel_rfl) (by kernel_rfl) (by kernel_rfl) rfl rfl (fun _ => Yd.move rfl) ?_
        refine SegA.pure 3 rfl (by kernel_rfl) (by kernel_rfl) (by kernel_rfl) rfl rfl (fun _ => Yd.indexAddr rfl rfl rfl (NatOf.cast _) (by omega)) ?_
        refine SegA.held 6 ?_
        refine SegG.take 0 rfl (by kernel_rfl) (by kernel_rfl) (by kernel_rfl) (by kernel_rfl) (by kernel_rfl) rfl rfl (fun w' hw' => Yd.loadN rfl rfl rfl (hB3.ext hw').row) ?_
        refine SegG.take 4 rfl (by kernel_rfl) (by kernel_rfl) (by kernel_rfl) (by kernel_rfl) (by kernel_rfl) rfl rfl (fun w' hw' => Yd.loadN rfl rfl rfl (hrow'.ext hw')) ?_
        refine SegG.oneSeg (o := ⟨_, _, _, _, _, _⟩) 5 rfl (by kernel_rfl) ?_
        (refine Seg.call rfl rfl (own_of rfl) rfl (within13 a p _ ha hpw) ?_; rintro _ w28 ⟨rfl, hE28⟩; rw [hwd])
        replace hE20 := Ext.trans hE20 hE28
        replace hE0 := Ext.trans hE0 hE28
        replace hB3 := hB3.ext hE28
        replace hrow' := hrow'.ext hE28
        refine SegG.back rfl (by first | assumption | exact Ext.refl _) ?_
        refine SegG.done (by kernel_rfl) ?_
        refine At.then_ ?_
        refine Cd.condF rfl ?_
        refine Cd.skip ?_
        refine At.blk ?_
        refine At.then_ ?_
        refine Cd.region ?_
        refine Seg.step rfl rfl (Yd.move rfl) ?_
        refine Seg.step rfl rfl (Yd.addI rfl rfl (by omega)) ?_
        refine Seg.step rfl rfl (Yd.assign rfl) ?_
        refine Seg.nil ?_
        exact At.round (i + 1) (.cons rfl (.cons rfl (.cons rfl (.cons rfl (.nil _))))) ⟨⟨by omega, fun j q hj hq => by rcases Nat.lt_or_eq_of_le (Nat.le_of_lt_succ hj) with h | rfl; (exact hall j q h hq); (rw [hpi] at hq; cases hq; exact hwi)⟩, by assumption, by assumption⟩ (by omega)
      · exfalso; omega
  · have hat := place_end (a := a) hall (by omega)
    refine Cd.seq ?_
    refine Cd.seq ?_
    refine Cd.region ?_
    refine Seg.step rfl rfl (Yd.move rfl) ?_
    refine Seg.step rfl rfl (Yd.move rfl) ?_
    refine Seg.step rfl rfl (Yd.lenS rfl rfl) ?_
    refine Seg.step rfl rfl (Yd.lss rfl rfl) ?_
    refine Seg.nil ?_
    refine At.then_ ?_
    refine Cd.condk rfl (fun h13 => ?_) (fun h13 => ?_)
    · exfalso; omega
    · refine Cd.exit ?_
      refine At.then_exit ?_
      refine At.then_exit ?_
      refine At.blk_same ?_
      refine At.then_ ?_
      refine Cd.seq ?_
      refine Cd.region ?_
      refine Seg.step rfl rfl (Yd.move rfl) ?_
      refine Seg.step rfl rfl (Yd.lenS rfl rfl) ?_
      refine Seg.step rfl rfl (Yd.assign rfl) ?_
      refine Seg.nil ?_
      refine At.then_ ?_
      refine Cd.ret ?_
      exact At.ret Try.results7 (.tmp rfl .nil) ⟨by rw [hat]; rfl, by assumption⟩
end Go.Proofs.Ytdomaooegpeneaa
