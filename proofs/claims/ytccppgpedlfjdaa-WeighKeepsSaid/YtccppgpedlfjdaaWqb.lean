/- How often a record is there: the walk. -/
import Derived.Test.YtccppgpedlfjdaaWqa
namespace Go.Proofs.Ytccppgpedlfjdaa
open Go Go.RowKit
noncomputable instance (a b : Rec) : Decidable (a.key = b.key) := Classical.propDecidable _
noncomputable def countR (rs : List Rec) (r : Rec) : Nat := rs.countP fun x : Rec => decide (x.key = r.key)
theorem countR_take {rs : List Rec} {i : Nat} {x r : Rec} (h : rs[i]? = some x) : countR (rs.take (i + 1)) r = countR (rs.take i) r + (if x.key = r.key then 1 else 0) := by
  unfold countR
  rw [List.take_add_one, h, List.countP_append]
  simp [List.countP_cons]
theorem count_any (rs : List Rec) (r : Rec) (v0 : Value) (w : World) (h0 : RecsAt w v0 rs) (hr : RecAt w r) (hf : ∀ x ∈ rs, FitR x) (hw : ∀ x ∈ rs, WfR x) (hwr : WfR r) (hl : rs.length ≤ 1000) :
    Ret Try.prog 15 #[v0, .agg r.cells.toArray] w fun v w' => v = .int .i64 (countR rs r : Nat) ∧ Ext w w' := by
  have hE0 := Ext.refl w
  have kr : Keep (RecAt w r) := hr
  obtain ⟨⟨ao, c, rfl, hl0, hr0, hz0⟩, hrec⟩ := h0
  refine Ret.body Try.func15 rfl Try.ntmps15 rfl ?_
  refine Cd.seq ?_
  refine Cd.region ?_
  refine Seg.box rfl rfl rfl (fun w3 b3 hE3 hB3 hb3 => ?_)
  have hlt3_0 := Nat.le_trans hE0.size hb3
  replace hr := hr.ext hE3
  replace hE0 := Ext.trans hE0 hE3
  refine Seg.step rfl rfl (Yd.assign rfl) ?_
  refine Seg.nil ?_
  refine At.then_ ?_
  refine Cd.seq ?_
  refine Cd.region ?_
  refine Seg.step rfl rfl (Yd.assign rfl) ?_
  refine Seg.nil ?_
  refine At.then_ ?_
  refine Cd.seq ?_
  refine Cd.seq ?_
  refine Cd.region ?_
  refine Seg.step rfl rfl (Yd.assign rfl) ?_
  refine Seg.nil ?_
  refine At.then_ ?_
  refine Cd.block ?_
  have kB : Keep (Bx w3 b3 r.cells) := hB3
  have kE3 : Keep (Ext w w3) := hE0
  refine Cd.loop (σ := Nat) (fun i => [(0, .slice ao rs.length c), (3, .pointer (some ⟨b3, 0, none⟩)), (5, .int .i64 (countR (rs.take i) r : Nat)), (6, .int .i64 (i : Int))])
    (fun i w' => i ≤ rs.length ∧ Ext w3 w') (fun i => rs.length - i) 0 (.cons rfl (.cons rfl (.cons rfl (.cons rfl (.nil _))))) ⟨Nat.zero_le _, Ext.refl _⟩ ?_
  clear hE0 hB3 hr
  rintro i w1 ⟨hi, hE3⟩
  have hE0 := Ext.trans kE3 hE3
  have hB := Bx.ext kB hE3
  have hcl : countR (rs.take i) r ≤ i := Nat.le_trans List.countP_le_length (by rw [List.length_take]; omega)
  by_cases hlt : i < rs.length
  · obtain ⟨a, rfl⟩ : ∃ a, ao = some a := by
      cases ao with
      | none => have := hz0 rfl; omega
      | some a => exact ⟨a, rfl⟩
    obtain ⟨x, hx⟩ : ∃ x, rs[i]? = some x := ⟨_, List.getElem?_eq_getElem hlt⟩
    have hxm := List.mem_of_getElem? hx
    have hrow := (recs_part (hr0 a rfl) hx).ext hE0
    have hct := countR_take (r := r) hx
    have hsame := fun (w' : World) (hE : Ext w w') => same13 x r w' ((hrec x hxm).ext hE) (RecAt.ext kr hE) (hf x hxm) (hw x hxm) hwr
    by_cases hk : x.key = r.key
    · rw [if_pos hk] at hct
      refine Cd.seq ?_
      refine Cd.seq ?_
      refine Cd.region ?_
      refine Seg.step rfl rfl (Yd.move rfl) ?_
      refine Seg.step rfl rfl (Yd.move rfl) ?_
      refine Seg.step rfl rfl (Yd.lenS rfl rfl) ?_
      refine Seg.step rfl rfl (Yd.lss rfl rfl) ?_
      refine Seg.nil ?_
      refine At.then_ ?_
      refine Cd.condk rfl (fun h13 => ?_) (fun h13 => ?_)
      · refine Cd.skip ?_
        refine At.then_ ?_
        refine Cd.seq ?_
        refine Cd.block ?_
        refine Cd.seq ?_
        refine Cd.anyE (by kernel_rfl) (fun w20 hE20 => ?_)
        replace hE3 := Ext.trans hE3 hE20
        replace hE0 := Ext.trans hE0 hE20
        replace hB := hB.ext hE20
        replace hrow := hrow.ext hE20
        refine SegA.pure 0 rfl (by kernel_rfl) (by kernel_rfl) (by kernel_rfl) rfl rfl (fun _ => Yd.move rfl) ?_
        refine SegA.pure 1 rfl (by kernel_rfl) (by kernel_rfl) (by kernel_rfl) rfl rfl (fun _ => Yd.move rfl) ?_
        refine SegA.pure 2 rfl (by kernel_rfl) (by kernel_rfl) (by kernel_rfl) rfl rfl (fun _ => Yd.indexAddr rfl rfl rfl (NatOf.cast _) (by omega)) ?_
        refine SegA.held 6 ?_
        refine SegG.take 3 rfl (by kernel_rfl) (by kernel_rfl) (by kernel_rfl) (by kernel_rfl) (by kernel_rfl) rfl rfl (fun w' hw' => Yd.loadN rfl rfl rfl (hrow.ext hw')) ?_
        refine SegG.take 4 rfl (by kernel_rfl) (by kernel_rfl) (by kernel_rfl) (by kernel_rfl) (by kernel_rfl) rfl rfl (fun w' hw' => Yd.loadN rfl rfl rfl (hB.ext hw').row) ?_
        refine SegG.oneSeg (o := ⟨_, _, _, _, _, _⟩) 5 rfl (by kernel_rfl) ?_
        (refine Seg.call rfl rfl (own_of rfl) rfl (hsame _ hE0) ?_; rintro _ w28 ⟨⟨bb, rfl, hbb⟩, hE28⟩; rw [hbb.2 hk])
        replace hE20 := Ext.trans hE20 hE28
        replace hE3 := Ext.trans hE3 hE28
        replace hE0 := Ext.trans hE0 hE28
        replace hB := hB.ext hE28
        replace hrow := hrow.ext hE28
        refine SegG.back rfl (by first | assumption | exact Ext.refl _) ?_
        refine SegG.done (by kernel_rfl) ?_
        refine At.then_ ?_
        refine Cd.condT rfl ?_
        refine Cd.region ?_
        refine Seg.step rfl rfl (Yd.move rfl) ?_
        refine Seg.step rfl rfl (Yd.addI rfl rfl (by omega)) ?_
        refine Seg.step rfl rfl (Yd.assign rfl) ?_
        refine Seg.nil ?_
        refine At.blk ?_
        refine At.then_ ?_
        refine Cd.region ?_
        refine Seg.step rfl rfl (Yd.move rfl) ?_
        refine Seg.step rfl rfl (Yd.addI rfl rfl (by omega)) ?_
        refine Seg.step rfl rfl (Yd.assign rfl) ?_
        refine Seg.nil ?_
        exact At.round (i + 1) (.cons rfl (.cons rfl (.cons (congrArg (fun z => some (Value.int .i64 z)) (show (countR (rs.take i) r : Int) + 1 = _ from (by rw [hct]; rfl))) (.cons rfl (.nil _))))) ⟨hlt, by assumption⟩ (Nat.sub_lt_sub_left hlt (Nat.lt_succ_self i))
      · exfalso; omega
    · rw [if_neg hk] at hct
      refine Cd.seq ?_
      refine Cd.seq ?_
      refine Cd.region ?_
      refine Seg.step rfl rfl (Yd.move rfl) ?_
      refine Seg.step rfl rfl (Yd.move rfl) ?_
      refine Seg.step rfl rfl (Yd.lenS rfl rfl) ?_
      refine Seg.step rfl rfl (Yd.lss rfl rfl) ?_
      refine Seg.nil ?_
      refine At.then_ ?_
      refine Cd.condk rfl (fun h13 => ?_) (fun h13 => ?_)
      · refine Cd.skip ?_
        refine At.then_ ?_
        refine Cd.seq ?_
        refine Cd.block ?_
        refine Cd.seq ?_
        refine Cd.anyE (by kernel_rfl) (fun w20 hE20 => ?_)
        replace hE3 := Ext.trans hE3 hE20
        replace hE0 := Ext.trans hE0 hE20
        replace hB := hB.ext hE20
        replace hrow := hrow.ext hE20
        refine SegA.pure 0 rfl (by kernel_rfl) (by kernel_rfl) (by kernel_rfl) rfl rfl (fun _ => Yd.move rfl) ?_
        refine SegA.pure 1 rfl (by kernel_rfl) (by kernel_rfl) (by kernel_rfl) rfl rfl (fun _ => Yd.move rfl) ?_
        refine SegA.pure 2 rfl (by kernel_rfl) (by kernel_rfl) (by kernel_rfl) rfl rfl (fun _ => Yd.indexAddr rfl rfl rfl (NatOf.cast _) (by omega)) ?_
        refine SegA.held 6 ?_
        refine SegG.take 3 rfl (by kernel_rfl) (by kernel_rfl) (by kernel_rfl) (by kernel_rfl) (by kernel_rfl) rfl rfl (fun w' hw' => Yd.loadN rfl rfl rfl (hrow.ext hw')) ?_
        refine SegG.take 4 rfl (by kernel_rfl) (by kernel_rfl) (by kernel_rfl) (by kernel_rfl) (by kernel_rfl) rfl rfl (fun w' hw' => Yd.loadN rfl rfl rfl (hB.ext hw').row) ?_
        refine SegG.oneSeg (o := ⟨_, _, _, _, _, _⟩) 5 rfl (by kernel_rfl) ?_
        (refine Seg.call rfl rfl (own_of rfl) rfl (hsame _ hE0) ?_; rintro _ w28 ⟨⟨bb, rfl, hbb⟩, hE28⟩; rw [show bb = false by cases bb; rfl; exact absurd (hbb.1 rfl) hk])
        replace hE20 := Ext.trans hE20 hE28
        replace hE3 := Ext.trans hE3 hE28
        replace hE0 := Ext.trans hE0 hE28
        replace hB := hB.ext hE28
        replace hrow := hrow.ext hE28
        refine SegG.back rfl (by first | assumption | exact Ext.refl _) ?_
        refine SegG.done (by kernel_rfl) ?_
        refine At.then_ ?_
        refine Cd.condF rfl ?_
        refine Cd.skip ?_
        refine At.blk ?_
        refine At.then_ ?_
        refine Cd.region ?_
        refine Seg.step rfl rfl (Yd.move rfl) ?_
        refine Seg.step rfl rfl (Yd.addI rfl rfl (by omega)) ?_
        refine Seg.step rfl rfl (Yd.assign rfl) ?_
        refine Seg.nil ?_
        exact At.round (i + 1) (.cons rfl (.cons rfl (.cons (congrArg (fun z : Nat => some (Value.int .i64 (z : Int))) hct.symm) (.cons rfl (.nil _))))) ⟨hlt, by assumption⟩ (Nat.sub_lt_sub_left hlt (Nat.lt_succ_self i))
      · exfalso; omega
  · have hie : i = rs.length := by omega
    have hfin : rs.take i = rs := List.take_of_length_le (by omega)
    rw [hfin]
    refine Cd.seq ?_
    refine Cd.seq ?_
    refine Cd.region ?_
    refine Seg.step rfl rfl (Yd.move rfl) ?_
    refine Seg.step rfl rfl (Yd.move rfl) ?_
    refine Seg.step rfl rfl (Yd.lenS rfl rfl) ?_
    refine Seg.step rfl rfl (Yd.lss rfl rfl) ?_
    refine Seg.nil ?_
    refine At.then_ ?_
    refine Cd.condk rfl (fun h13 => ?_) (fun h13 => ?_)
    · exfalso; omega
    · refine Cd.exit ?_
      refine At.then_exit ?_
      refine At.then_exit ?_
      refine At.blk_same ?_
      refine At.then_ ?_
      refine Cd.seq ?_
      refine Cd.region ?_
      refine Seg.step rfl rfl (Yd.move rfl) ?_
      refine Seg.step rfl rfl (Yd.assign rfl) ?_
      refine Seg.nil ?_
      refine At.then_ ?_
      refine Cd.ret ?_
      exact At.ret Try.results15 (.tmp rfl .nil) ⟨rfl, by assumption⟩
end Go.Proofs.Ytccppgpedlfjdaa
