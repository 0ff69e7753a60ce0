/- Prefixes: what is wrong with them. -/
import Derived.Test.YtdomaooegpeneaaAda
namespace Go.Proofs.Ytdomaooegpeneaa
open Go Go.RowKit
def okP (p : El) : Prop := okA p.1 ∧ 0 ≤ p.2 ∧ p.2 ≤ bitsOf p.1.fam
theorem holds17 (p : El) (w : World) (hp : WfA p.1) : Ret Try.prog 17 #[.agg (cel p).toArray] w fun v w' => (∃ e : Int, v = .int .i64 e ∧ (e = 0 ↔ okP p)) ∧ Ext w w' := by
  have hE0 := Ext.refl w
  refine Ret.body Try.func17 rfl Try.ntmps17 rfl ?_
  refine Cd.seq ?_
  refine Cd.region ?_
  refine Seg.box rfl rfl rfl (fun w3 b3 hE3 hB3 hb3 => ?_)
  have hlt3_0 := Nat.le_trans hE0.size hb3
  replace hE0 := Ext.trans hE0 hE3
  refine Seg.step rfl rfl (Yd.assign rfl) ?_
  refine Seg.nil ?_
  refine At.then_ ?_
  refine Cd.seq ?_
  refine Cd.seq ?_
  refine Cd.region ?_
  refine Seg.step rfl rfl (Yd.fieldAddr rfl rfl) ?_
  refine Seg.step rfl rfl (Yd.loadN rfl rfl rfl (show Row _ (Addr.add ⟨b3, 0, none⟩ 0) p.1.cells from hB3.row.part 0 18)) ?_
  (refine Seg.call rfl rfl (own_of rfl) rfl (check23 p.1 _ hp) ?_; rintro _ w12 ⟨⟨e, rfl, he⟩, hE12⟩)
  replace hE3 := Ext.trans hE3 hE12
  replace hB3 := hB3.ext hE12
  replace hE0 := Ext.trans hE0 hE12
  refine Seg.step rfl rfl (Yd.assign rfl) ?_
  refine Seg.nil ?_
  refine At.then_ ?_
  refine Cd.seq ?_
  refine Cd.region ?_
  refine Seg.step rfl rfl (Yd.move rfl) ?_
  refine Seg.step rfl rfl (Yd.neq rfl rfl) ?_
  refine Seg.nil ?_
  refine At.then_ ?_
  refine Cd.condk rfl (fun h22 => ?_) (fun h22 => ?_)
  · refine Cd.seq ?_
    refine Cd.region ?_
    refine Seg.step rfl rfl (Yd.move rfl) ?_
    refine Seg.step rfl rfl (Yd.assign rfl) ?_
    refine Seg.nil ?_
    refine At.then_ ?_
    refine Cd.ret ?_
    refine At.then_ret ?_
    exact At.ret Try.results17 (.tmp rfl .nil) ⟨⟨e, rfl, fun h => ⟨he.1 h, by omega, by omega⟩, fun h => he.2 h.1⟩, by assumption⟩
  · refine Cd.skip ?_
    refine At.then_ ?_
    refine Cd.seq ?_
    refine Cd.seq ?_
    refine Cd.quiet (by kernel_rfl) (by kernel_rfl) ?_
    refine SegQ.step rfl rfl (fun w' hw' => Yd.fieldAddr rfl rfl) ?_
    refine SegQ.step rfl rfl (fun w' hw' => Yd.load1 rfl rfl ((hB3.ext hw').row _ _ rfl)) ?_
    refine SegQ.step rfl rfl (fun w' hw' => Yd.lss rfl rfl) ?_
    refine SegQ.step rfl rfl (fun w' hw' => Yd.move rfl) ?_
    refine SegQ.gsplitp rfl rfl (fun h43 => ?_) (fun h43 => ?_)
    · refine SegQ.skip rfl rfl ?_
      refine SegQ.skip rfl rfl ?_
      refine SegQ.skip rfl rfl ?_
      refine SegQ.skip rfl rfl ?_
      refine SegQ.skip rfl rfl ?_
      refine SegQ.skip rfl rfl ?_
      refine SegQ.step rfl rfl (fun w' hw' => Yd.pickT rfl rfl) ?_
      refine SegQ.nil fun w52 hE52 => ?_
      replace hE12 := Ext.trans hE12 hE52
      replace hE3 := Ext.trans hE3 hE52
      replace hB3 := hB3.ext hE52
      replace hE0 := Ext.trans hE0 hE52
      refine At.then_ ?_
      refine Cd.condT rfl ?_
      refine Cd.seq ?_
      refine Cd.region ?_
      refine Seg.step rfl rfl (Yd.assign rfl) ?_
      refine Seg.nil ?_
      refine At.then_ ?_
      refine Cd.ret ?_
      refine At.then_ret ?_
      exact At.ret Try.results17 (.tmp rfl .nil) ⟨⟨4, rfl, fun h => absurd h (by decide), fun h => by have h1 := h.2.1; have h2 := h.2.2; omega⟩, by assumption⟩
    · refine SegQ.step rfl rfl (fun w' hw' => Yd.fieldAddr rfl rfl) ?_
      refine SegQ.step rfl rfl (fun w' hw' => Yd.load1 rfl rfl ((hB3.ext hw').row _ _ rfl)) ?_
      refine SegQ.step rfl rfl (fun w' hw' => Yd.fieldAddr rfl rfl) ?_
      refine SegQ.step rfl rfl (fun w' hw' => Yd.loadN rfl rfl rfl (Row.ext (show Row _ (Addr.add ⟨b3, 0, none⟩ 0) p.1.cells from hB3.row.part 0 18) hw')) ?_
      refine SegQ.call rfl rfl (own_of rfl) rfl (fun w' hw' => (bits24 p.1 w').mono fun v w2 ⟨hv, h2⟩ => ⟨hv, hw'.trans h2⟩) ?_
      refine SegQ.step rfl rfl (fun w' hw' => Yd.gtr rfl rfl) ?_
      refine SegQ.step rfl rfl (fun w' hw' => Yd.pickF rfl rfl) ?_
      refine SegQ.nil fun w71 hE71 => ?_
      replace hE12 := Ext.trans hE12 hE71
      replace hE3 := Ext.trans hE3 hE71
      replace hB3 := hB3.ext hE71
      replace hE0 := Ext.trans hE0 hE71
      refine At.then_ ?_
      refine Cd.condk rfl (fun h73 => ?_) (fun h73 => ?_)
      · refine Cd.seq ?_
        refine Cd.region ?_
        refine Seg.step rfl rfl (Yd.assign rfl) ?_
        refine Seg.nil ?_
        refine At.then_ ?_
        refine Cd.ret ?_
        refine At.then_ret ?_
        exact At.ret Try.results17 (.tmp rfl .nil) ⟨⟨4, rfl, fun h => absurd h (by decide), fun h => by have h1 := h.2.1; have h2 := h.2.2; omega⟩, by assumption⟩
      · refine Cd.skip ?_
        refine At.then_ ?_
        refine Cd.seq ?_
        refine Cd.region ?_
        refine Seg.step rfl rfl (Yd.assign rfl) ?_
        refine Seg.nil ?_
        refine At.then_ ?_
        refine Cd.ret ?_
        exact At.ret Try.results17 (.tmp rfl .nil) ⟨⟨0, rfl, fun _ => ⟨he.1 (by omega), by omega, by omega⟩, fun _ => rfl⟩, by assumption⟩
theorem holds19 (p : El) (w : World) (hp : WfA p.1) : Ret Try.prog 19 #[.agg (cel p).toArray] w fun v w' => (∃ e : Int, v = .int .i64 e ∧ (e = 0 ↔ okP p)) ∧ Ext w w' := by
  have hE0 := Ext.refl w
  refine Ret.body Try.func19 rfl Try.ntmps19 rfl ?_
  refine Cd.seq ?_
  refine Cd.region ?_
  refine Seg.box rfl rfl rfl (fun w3 b3 hE3 hB3 hb3 => ?_)
  have hlt3_0 := Nat.le_trans hE0.size hb3
  replace hE0 := Ext.trans hE0 hE3
  refine Seg.step rfl rfl (Yd.assign rfl) ?_
  refine Seg.nil ?_
  refine At.then_ ?_
  refine Cd.seq ?_
  refine Cd.region ?_
  refine Seg.step rfl rfl (Yd.fieldAddr rfl rfl) ?_
  refine Seg.step rfl rfl (Yd.loadN rfl rfl rfl (show Row _ (Addr.add ⟨b3, 0, none⟩ 0) p.1.cells from hB3.row.part 0 18)) ?_
  (refine Seg.call rfl rfl (own_of rfl) rfl (check26 p.1 _ hp) ?_; rintro _ w11 ⟨⟨e, rfl, he⟩, hE11⟩)
  replace hE3 := Ext.trans hE3 hE11
  replace hB3 := hB3.ext hE11
  replace hE0 := Ext.trans hE0 hE11
  refine Seg.step rfl rfl (Yd.assign rfl) ?_
  refine Seg.nil ?_
  refine At.then_ ?_
  refine Cd.seq ?_
  refine Cd.seq ?_
  refine Cd.quiet (by kernel_rfl) (by kernel_rfl) ?_
  refine SegQ.step rfl rfl (fun w' hw' => Yd.move rfl) ?_
  refine SegQ.step rfl rfl (fun w' hw' => Yd.eql rfl rfl) ?_
  refine SegQ.step rfl rfl (fun w' hw' => Yd.move rfl) ?_
  refine SegQ.gsplitp rfl rfl (fun h21 => ?_) (fun h21 => ?_)
  · refine SegQ.step rfl rfl (fun w' hw' => Yd.fieldAddr rfl rfl) ?_
    refine SegQ.step rfl rfl (fun w' hw' => Yd.load1 rfl rfl ((hB3.ext hw').row _ _ rfl)) ?_
    refine SegQ.step rfl rfl (fun w' hw' => Yd.lss rfl rfl) ?_
    refine SegQ.step rfl rfl (fun w' hw' => Yd.move rfl) ?_
    refine SegQ.gsplitp rfl rfl (fun h27 => ?_) (fun h27 => ?_)
    · refine SegQ.skip rfl rfl ?_
      refine SegQ.skip rfl rfl ?_
      refine SegQ.skip rfl rfl ?_
      refine SegQ.skip rfl rfl ?_
      refine SegQ.skip rfl rfl ?_
      refine SegQ.skip rfl rfl ?_
      refine SegQ.step rfl rfl (fun w' hw' => Yd.pickT rfl rfl) ?_
      refine SegQ.step rfl rfl (fun w' hw' => Yd.pickT rfl rfl) ?_
      refine SegQ.nil fun w37 hE37 => ?_
      replace hE11 := Ext.trans hE11 hE37
      replace hE3 := Ext.trans hE3 hE37
      replace hB3 := hB3.ext hE37
      replace hE0 := Ext.trans hE0 hE37
      refine At.then_ ?_
      refine Cd.condT rfl ?_
      refine Cd.region ?_
      refine Seg.step rfl rfl (Yd.assign rfl) ?_
      refine Seg.nil ?_
      refine At.then_ ?_
      refine Cd.seq ?_
      refine Cd.region ?_
      refine Seg.step rfl rfl (Yd.move rfl) ?_
      refine Seg.step rfl rfl (Yd.assign rfl) ?_
      refine Seg.nil ?_
      refine At.then_ ?_
      refine Cd.ret ?_
      exact At.ret Try.results19 (.tmp rfl .nil) ⟨⟨4, rfl, fun h => absurd h (by decide), fun h => by have h1 := h.2.1; have h2 := h.2.2; omega⟩, by assumption⟩
    · refine SegQ.step rfl rfl (fun w' hw' => Yd.fieldAddr rfl rfl) ?_
      refine SegQ.step rfl rfl (fun w' hw' => Yd.load1 rfl rfl ((hB3.ext hw').row _ _ rfl)) ?_
      refine SegQ.step rfl rfl (fun w' hw' => Yd.fieldAddr rfl rfl) ?_
      refine SegQ.step rfl rfl (fun w' hw' => Yd.loadN rfl rfl rfl (Row.ext (show Row _ (Addr.add ⟨b3, 0, none⟩ 0) p.1.cells from hB3.row.part 0 18) hw')) ?_
      refine SegQ.call rfl rfl (own_of rfl) rfl (fun w' hw' => (bits27 p.1 w').mono fun v w2 ⟨hv, h2⟩ => ⟨hv, hw'.trans h2⟩) ?_
      refine SegQ.step rfl rfl (fun w' hw' => Yd.gtr rfl rfl) ?_
      refine SegQ.step rfl rfl (fun w' hw' => Yd.pickF rfl rfl) ?_
      refine SegQ.step rfl rfl (fun w' hw' => Yd.pickT rfl rfl) ?_
      refine SegQ.nil fun w61 hE61 => ?_
      replace hE11 := Ext.trans hE11 hE61
      replace hE3 := Ext.trans hE3 hE61
      replace hB3 := hB3.ext hE61
      replace hE0 := Ext.trans hE0 hE61
      refine At.then_ ?_
      refine Cd.condk rfl (fun h63 => ?_) (fun h63 => ?_)
      · refine Cd.region ?_
        refine Seg.step rfl rfl (Yd.assign rfl) ?_
        refine Seg.nil ?_
        refine At.then_ ?_
        refine Cd.seq ?_
        refine Cd.region ?_
        refine Seg.step rfl rfl (Yd.move rfl) ?_
        refine Seg.step rfl rfl (Yd.assign rfl) ?_
        refine Seg.nil ?_
        refine At.then_ ?_
        refine Cd.ret ?_
        exact At.ret Try.results19 (.tmp rfl .nil) ⟨⟨4, rfl, fun h => absurd h (by decide), fun h => by have h1 := h.2.1; have h2 := h.2.2; omega⟩, by assumption⟩
      · refine Cd.skip ?_
        refine At.then_ ?_
        refine Cd.seq ?_
        refine Cd.region ?_
        refine Seg.step rfl rfl (Yd.move rfl) ?_
        refine Seg.step rfl rfl (Yd.assign rfl) ?_
        refine Seg.nil ?_
        refine At.then_ ?_
        refine Cd.ret ?_
        exact At.ret Try.results19 (.tmp rfl .nil) ⟨⟨e, rfl, fun h => ⟨he.1 h, by omega, by omega⟩, fun h => he.2 h.1⟩, by assumption⟩
  · refine SegQ.skip rfl rfl ?_
    refine SegQ.skip rfl rfl ?_
    refine SegQ.skip rfl rfl ?_
    refine SegQ.skip rfl rfl ?_
    refine SegQ.skip rfl rfl ?_
    refine SegQ.skip rfl rfl ?_
    refine SegQ.skip rfl rfl ?_
    refine SegQ.skip rfl rfl ?_
    refine SegQ.skip rfl rfl ?_
    refine SegQ.skip rfl rfl ?_
    refine SegQ.skip rfl rfl ?_
    refine SegQ.step rfl rfl (fun w' hw' => Yd.pickF rfl rfl) ?_
    refine SegQ.nil fun w101 hE101 => ?_
    replace hE11 := Ext.trans hE11 hE101
    replace hE3 := Ext.trans hE3 hE101
    replace hB3 := hB3.ext hE101
    replace hE0 := Ext.trans hE0 hE101
    refine At.then_ ?_
    refine Cd.condF rfl ?_
    refine Cd.skip ?_
    refine At.then_ ?_
    refine Cd.seq ?_
    refine Cd.region ?_
    refine Seg.step rfl rfl (Yd.move rfl) ?_
    refine Seg.step rfl rfl (Yd.assign rfl) ?_
    refine Seg.nil ?_
    refine At.then_ ?_
    refine Cd.ret ?_
    exact At.ret Try.results19 (.tmp rfl .nil) ⟨⟨e, rfl, fun h => ⟨he.1 h, by omega, by omega⟩, fun h => he.2 h.1⟩, by assumption⟩
end Go.Proofs.Ytdomaooegpeneaa
