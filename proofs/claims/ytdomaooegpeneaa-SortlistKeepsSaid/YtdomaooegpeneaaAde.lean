/- Prefixes that hold addresses, and the place of an address in a list. -/
import Derived.Test.YtdomaooegpeneaaAdd
import Derived.Test.YtdomaooegpeneaaWku
namespace Go.Proofs.Ytdomaooegpeneaa
open Go Go.RowKit
def within (a : Adr) (p : El) : Prop := okP p ∧ a.fam = p.1.fam ∧ ∀ j : Nat, (j : Int) < p.2 → bitN a j = bitN p.1 j
noncomputable instance (a : Adr) (p : El) : Decidable (within a p) := Classical.propDecidable _
theorem cmn_iff {a : Adr} {p : El} {m : Int} (h : Cmn a p.1 m) (hf : a.fam = p.1.fam) (hok : okP p) : p.2 ≤ m ↔ ∀ j : Nat, (j : Int) < p.2 → bitN a j = bitN p.1 j := by
  obtain ⟨n, rfl, h1, h2⟩ := h
  obtain ⟨_, h3, h4⟩ := hok
  rw [hf] at h2
  constructor
  · intro hle j hj; exact h1 j (by omega)
  · intro hall
    by_cases hc : p.2 ≤ (n : Int)
    · exact hc
    · exact absurd (hall n (by omega)) (h2 (by omega))
theorem win_iff {a : Adr} {p : El} {m e : Int} (he : e = 0 ↔ okP p) (h : e = 0) (hf : a.fam = p.1.fam) (hm : Cmn a p.1 m) : Value.bool (decide (p.2 ≤ m)) = .bool (decide (within a p)) := by
  have hok := he.1 h
  have := cmn_iff hm hf hok
  congr 1
  rw [decide_eq_decide, this]
  exact ⟨fun h => ⟨hok, hf, h⟩, fun h => h.2.2⟩
theorem win_fam {a : Adr} {p : El} (hf : ¬ a.fam = p.1.fam) : Value.bool false = .bool (decide (within a p)) := by
  rw [decide_eq_false (fun h : within a p => hf h.2.1)]
theorem win_err {a : Adr} {p : El} {e : Int} (he : e = 0 ↔ okP p) (h : ¬ e = 0) : Value.bool false = .bool (decide (within a p)) := by
  rw [decide_eq_false (fun h' : within a p => h (he.2 h'.1))]
theorem within12 (a : Adr) (p : El) (w : World) (ha : WfA a) (hp : WfA p.1) : Ret Try.prog 12 #[.agg a.cells.toArray, .agg (cel p).toArray] w fun v w' => v = .bool (decide (within a p)) ∧ Ext w w' := by
  have hE0 := Ext.refl w
  refine Ret.body Try.func12 rfl Try.ntmps12 rfl ?_
  refine Cd.seq ?_
  refine Cd.region ?_
  refine Seg.box rfl rfl rfl (fun w3 b3 hE3 hB3 hb3 => ?_)
  have hlt3_0 := Nat.le_trans hE0.size hb3
  replace hE0 := Ext.trans hE0 hE3
  refine Seg.box rfl rfl rfl (fun w4 b4 hE4 hB4 hb4 => ?_)
  have hlt4_0 := Nat.le_trans hE3.size hb4
  have hlt4_1 := Nat.lt_of_lt_of_le hB3.lt hb4
  have hlt4_2 := Nat.le_trans hE0.size hb4
  replace hE3 := Ext.trans hE3 hE4
  replace hB3 := hB3.ext hE4
  replace hE0 := Ext.trans hE0 hE4
  refine Seg.step rfl rfl (Yd.assign rfl) ?_
  refine Seg.nil ?_
  refine At.then_ ?_
  refine Cd.seq ?_
  refine Cd.anyE (by kernel_rfl) (fun w9 hE9 => ?_)
  replace hE4 := Ext.trans hE4 hE9
  replace hB4 := hB4.ext hE9
  replace hE3 := Ext.trans hE3 hE9
  replace hB3 := hB3.ext hE9
  replace hE0 := Ext.trans hE0 hE9
  refine SegA.oneSeg (o := ⟨_, _, _, _, _, _⟩) 0 rfl (by kernel_rfl) ?_
  refine Seg.step rfl rfl (Yd.loadN rfl rfl rfl hB4.row) ?_
  refine SegA.back ?_
  refine SegA.oneSeg (o := ⟨_, _, _, _, _, _⟩) 1 rfl (by kernel_rfl) ?_
  (refine Seg.call rfl rfl (own_of rfl) rfl (holds17 p _ hp) ?_; rintro _ w14 ⟨⟨e, rfl, he⟩, hE14⟩)
  replace hE9 := Ext.trans hE9 hE14
  replace hE4 := Ext.trans hE4 hE14
  replace hB4 := hB4.ext hE14
  replace hE3 := Ext.trans hE3 hE14
  replace hB3 := hB3.ext hE14
  replace hE0 := Ext.trans hE0 hE14
  refine SegA.back ?_
  refine SegA.pure 2 rfl (by kernel_rfl) (by kernel_rfl) (by kernel_rfl) rfl rfl (fun _ => Yd.eql rfl rfl) ?_
  refine SegA.pure 3 rfl (by kernel_rfl) (by kernel_rfl) (by kernel_rfl) rfl rfl (fun _ => Yd.move rfl) ?_
  refine SegA.held 21 ?_
  refine SegG.gsplitp 4 rfl rfl rfl (fun h19 => ?_) (fun h19 => ?_)
  · refine SegG.take 4 rfl (by kernel_rfl) (by kernel_rfl) (by kernel_rfl) (by kernel_rfl) (by kernel_rfl) rfl rfl (fun w' hw' => Yd.fieldAddr rfl rfl) ?_
    refine SegG.take 5 rfl (by kernel_rfl) (by kernel_rfl) (by kernel_rfl) (by kernel_rfl) (by kernel_rfl) rfl rfl (fun w' hw' => Yd.load1 rfl rfl ((hB3.ext hw').row _ _ rfl)) ?_
    refine SegG.take 6 rfl (by kernel_rfl) (by kernel_rfl) (by kernel_rfl) (by kernel_rfl) (by kernel_rfl) rfl rfl (fun w' hw' => Yd.fieldAddr rfl rfl) ?_
    refine SegG.take 7 rfl (by kernel_rfl) (by kernel_rfl) (by kernel_rfl) (by kernel_rfl) (by kernel_rfl) rfl rfl (fun w' hw' => Yd.fieldAddr' rfl rfl) ?_
    refine SegG.take 8 rfl (by kernel_rfl) (by kernel_rfl) (by kernel_rfl) (by kernel_rfl) (by kernel_rfl) rfl rfl (fun w' hw' => Yd.load1 rfl rfl ((hB4.ext hw').row _ _ rfl)) ?_
    refine SegG.take 9 rfl (by kernel_rfl) (by kernel_rfl) (by kernel_rfl) (by kernel_rfl) (by kernel_rfl) rfl rfl (fun w' hw' => Yd.eql rfl rfl) ?_
    refine SegG.take 10 rfl (by kernel_rfl) (by kernel_rfl) (by kernel_rfl) (by kernel_rfl) (by kernel_rfl) rfl rfl (fun w' hw' => Yd.pickT rfl rfl) ?_
    refine SegG.take 11 rfl (by kernel_rfl) (by kernel_rfl) (by kernel_rfl) (by kernel_rfl) (by kernel_rfl) rfl rfl (fun w' hw' => Yd.move rfl) ?_
    refine SegG.gsplitp 12 rfl rfl rfl (fun h29 => ?_) (fun h29 => ?_)
    · refine SegG.take 12 rfl (by kernel_rfl) (by kernel_rfl) (by kernel_rfl) (by kernel_rfl) (by kernel_rfl) rfl rfl (fun w' hw' => Yd.loadN rfl rfl rfl (hB3.ext hw').row) ?_
      refine SegG.take 13 rfl (by kernel_rfl) (by kernel_rfl) (by kernel_rfl) (by kernel_rfl) (by kernel_rfl) rfl rfl (fun w' hw' => Yd.fieldAddr rfl rfl) ?_
      refine SegG.take 14 rfl (by kernel_rfl) (by kernel_rfl) (by kernel_rfl) (by kernel_rfl) (by kernel_rfl) rfl rfl (fun w' hw' => Yd.loadN rfl rfl rfl (Row.ext (show Row _ (Addr.add ⟨b4, 0, none⟩ 0) p.1.cells from hB4.row.part 0 18) hw')) ?_
      refine SegG.take 16 rfl (by kernel_rfl) (by kernel_rfl) (by kernel_rfl) (by kernel_rfl) (by kernel_rfl) rfl rfl (fun w' hw' => Yd.fieldAddr rfl rfl) ?_
      refine SegG.take 17 rfl (by kernel_rfl) (by kernel_rfl) (by kernel_rfl) (by kernel_rfl) (by kernel_rfl) rfl rfl (fun w' hw' => Yd.load1 rfl rfl ((hB4.ext hw').row _ _ rfl)) ?_
      refine SegG.oneSeg (o := ⟨_, _, _, _, _, _⟩) 15 rfl (by kernel_rfl) ?_
      (refine Seg.call rfl rfl (own_of rfl) rfl (common18 a p.1 _ ha hp (by assumption)) ?_; rintro _ w37 ⟨⟨m, rfl, hm⟩, hE37⟩)
      replace hE14 := Ext.trans hE14 hE37
      replace hE9 := Ext.trans hE9 hE37
      replace hE4 := Ext.trans hE4 hE37
      replace hB4 := hB4.ext hE37
      replace hE3 := Ext.trans hE3 hE37
      replace hB3 := hB3.ext hE37
      replace hE0 := Ext.trans hE0 hE37
      refine SegG.back rfl (by first | assumption | exact Ext.refl _) ?_
      refine SegG.take 18 rfl (by kernel_rfl) (by kernel_rfl) (by kernel_rfl) (by kernel_rfl) (by kernel_rfl) rfl rfl (fun w' hw' => Yd.geq rfl rfl) ?_
      refine SegG.take 19 rfl (by kernel_rfl) (by kernel_rfl) (by kernel_rfl) (by kernel_rfl) (by kernel_rfl) rfl rfl (fun w' hw' => Yd.pickT rfl rfl) ?_
      refine SegG.take 20 rfl (by kernel_rfl) (by kernel_rfl) (by kernel_rfl) (by kernel_rfl) (by kernel_rfl) rfl rfl (fun w' hw' => Yd.assign rfl) ?_
      refine SegG.done (by kernel_rfl) ?_
      refine At.then_ ?_
      refine Cd.ret ?_
      exact At.ret Try.results12 (.tmp rfl .nil) ⟨win_iff he (by assumption) (by assumption) hm, by assumption⟩
    · refine SegG.skip 12 rfl (by kernel_rfl) (by kernel_rfl) (by kernel_rfl) (by kernel_rfl) (by kernel_rfl) rfl rfl ?_
      refine SegG.skip 13 rfl (by kernel_rfl) (by kernel_rfl) (by kernel_rfl) (by kernel_rfl) (by kernel_rfl) rfl rfl ?_
      refine SegG.skip 14 rfl (by kernel_rfl) (by kernel_rfl) (by kernel_rfl) (by kernel_rfl) (by kernel_rfl) rfl rfl ?_
      refine SegG.skip 15 rfl (by kernel_rfl) (by kernel_rfl) (by kernel_rfl) (by kernel_rfl) (by kernel_rfl) rfl rfl ?_
      refine SegG.skip 16 rfl (by kernel_rfl) (by kernel_rfl) (by kernel_rfl) (by kernel_rfl) (by kernel_rfl) rfl rfl ?_
      refine SegG.skip 17 rfl (by kernel_rfl) (by kernel_rfl) (by kernel_rfl) (by kernel_rfl) (by kernel_rfl) rfl rfl ?_
      refine SegG.skip 18 rfl (by kernel_rfl) (by kernel_rfl) (by kernel_rfl) (by kernel_rfl) (by kernel_rfl) rfl rfl ?_
      refine SegG.take 19 rfl (by kernel_rfl) (by kernel_rfl) (by kernel_rfl) (by kernel_rfl) (by kernel_rfl) rfl rfl (fun w' hw' => Yd.pickF rfl rfl) ?_
      refine SegG.take 20 rfl (by kernel_rfl) (by kernel_rfl) (by kernel_rfl) (by kernel_rfl) (by kernel_rfl) rfl rfl (fun w' hw' => Yd.assign rfl) ?_
      refine SegG.done (by kernel_rfl) ?_
      refine At.then_ ?_
      refine Cd.ret ?_
      exact At.ret Try.results12 (.tmp rfl .nil) ⟨win_fam (by assumption), by assumption⟩
  · refine SegG.skip 4 rfl (by kernel_rfl) (by kernel_rfl) (by kernel_rfl) (by kernel_rfl) (by kernel_rfl) rfl rfl ?_
    refine SegG.skip 5 rfl (by kernel_rfl) (by kernel_rfl) (by kernel_rfl) (by kernel_rfl) (by kernel_rfl) rfl rfl ?_
    refine SegG.skip 6 rfl (by kernel_rfl) (by kernel_rfl) (by kernel_rfl) (by kernel_rfl) (by kernel_rfl) rfl rfl ?_
    refine SegG.skip 7 rfl (by kernel_rfl) (by kernel_rfl) (by kernel_rfl) (by kernel_rfl) (by kernel_rfl) rfl rfl ?_
    refine SegG.skip 8 rfl (by kernel_rfl) (by kernel_rfl) (by kernel_rfl) (by kernel_rfl) (by kernel_rfl) rfl rfl ?_
    refine SegG.skip 9 rfl (by kernel_rfl) (by kernel_rfl) (by kernel_rfl) (by kernel_rfl) (by kernel_rfl) rfl rfl ?_
    refine SegG.take 10 rfl (by kernel_rfl) (by kernel_rfl) (by kernel_rfl) (by kernel_rfl) (by kernel_rfl) rfl rfl (fun w' hw' => Yd.pickF rfl rfl) ?_
    refine SegG.take 11 rfl (by kernel_rfl) (by kernel_rfl) (by kernel_rfl) (by kernel_rfl) (by kernel_rfl) rfl rfl (fun w' hw' => Yd.move rfl) ?_
    refine SegG.skip 12 rfl (by kernel_rfl) (by kernel_rfl) (by kernel_rfl) (by kernel_rfl) (by kernel_rfl) rfl rfl ?_
    refine SegG.skip 13 rfl (by kernel_rfl) (by kernel_rfl) (by kernel_rfl) (by kernel_rfl) (by kernel_rfl) rfl rfl ?_
    refine SegG.skip 14 rfl (by kernel_rfl) (by kernel_rfl) (by kernel_rfl) (by kernel_rfl) (by kernel_rfl) rfl rfl ?_
    refine SegG.skip 15 rfl (by kernel_rfl) (by kernel_rfl) (by kernel_rfl) (by kernel_rfl) (by kernel_rfl) rfl rfl ?_
    refine SegG.skip 16 rfl (by kernel_rfl) (by kernel_rfl) (by kernel_rfl) (by kernel_rfl) (by kernel_rfl) rfl rfl ?_
    refine SegG.skip 17 rfl (by kernel_rfl) (by kernel_rfl) (by kernel_rfl) (by kernel_rfl) (by kernel_rfl) rfl rfl ?_
    refine SegG.skip 18 rfl (by kernel_rfl) (by kernel_rfl) (by kernel_rfl) (by kernel_rfl) (by kernel_rfl) rfl rfl ?_
    refine SegG.take 19 rfl (by kernel_rfl) (by kernel_rfl) (by kernel_rfl) (by kernel_rfl) (by kernel_rfl) rfl rfl (fun w' hw' => Yd.pickF rfl rfl) ?_
    refine SegG.take 20 rfl (by kernel_rfl) (by kernel_rfl) (by kernel_rfl) (by kernel_rfl) (by kernel_rfl) rfl rfl (fun w' hw' => Yd.assign rfl) ?_
    refine SegG.done (by kernel_rfl) ?_
    refine At.then_ ?_
    refine Cd.ret ?_
    exact At.ret Try.results12 (.tmp rfl .nil) ⟨win_err he (by assumption), by assumption⟩
theorem within13 (a : Adr) (p : El) (w : World) (ha : WfA a) (hp : WfA p.1) : Ret Try.prog 13 #[.agg a.cells.toArray, .agg (cel p).toArray] w fun v w' => v = .bool (decide (within a p)) ∧ Ext w w' := by
  have hE0 := Ext.refl w
  refine Ret.body Try.func13 rfl Try.ntmps13 rfl ?_
  refine Cd.seq ?_
  refine Cd.region ?_
  refine Seg.box rfl rfl rfl (fun w3 b3 hE3 hB3 hb3 => ?_)
  have hlt3_0 := Nat.le_trans hE0.size hb3
  replace hE0 := Ext.trans hE0 hE3
  refine Seg.box rfl rfl rfl (fun w4 b4 hE4 hB4 hb4 => ?_)
  have hlt4_0 := Nat.le_trans hE3.size hb4
  have hlt4_1 := Nat.lt_of_lt_of_le hB3.lt hb4
  have hlt4_2 := Nat.le_trans hE0.size hb4
  replace hE3 := Ext.trans hE3 hE4
  replace hB3 := hB3.ext hE4
  replace hE0 := Ext.trans hE0 hE4
  refine Seg.step rfl rfl (Yd.assign rfl) ?_
  refine Seg.nil ?_
  refine At.then_ ?_
  refine Cd.seq ?_
  refine Cd.anyE (by kernel_rfl) (fun w9 hE9 => ?_)
  replace hE4 := Ext.trans hE4 hE9
  replace hB4 := hB4.ext hE9
  replace hE3 := Ext.trans hE3 hE9
  replace hB3 := hB3.ext hE9
  replace hE0 := Ext.trans hE0 hE9
  refine SegA.oneSeg (o := ⟨_, _, _, _, _, _⟩) 0 rfl (by kernel_rfl) ?_
  refine Seg.step rfl rfl (Yd.loadN rfl rfl rfl hB4.row) ?_
  refine SegA.back ?_
  refine SegA.oneSeg (o := ⟨_, _, _, _, _, _⟩) 1 rfl (by kernel_rfl) ?_
  (refine Seg.call rfl rfl (own_of rfl) rfl (holds19 p _ hp) ?_; rintro _ w14 ⟨⟨e, rfl, he⟩, hE14⟩)
  replace hE9 := Ext.trans hE9 hE14
  replace hE4 := Ext.trans hE4 hE14
  replace hB4 := hB4.ext hE14
  replace hE3 := Ext.trans hE3 hE14
  replace hB3 := hB3.ext hE14
  replace hE0 := Ext.trans hE0 hE14
  refine SegA.back ?_
  refine SegA.pure 2 rfl (by kernel_rfl) (by kernel_rfl) (by kernel_rfl) rfl rfl (fun _ => Yd.eql rfl rfl) ?_
  refine SegA.pure 3 rfl (by kernel_rfl) (by kernel_rfl) (by kernel_rfl) rfl rfl (fun _ => Yd.move rfl) ?_
  refine SegA.held 21 ?_
  refine SegG.gsplitp 4 rfl rfl rfl (fun h19 => ?_) (fun h19 => ?_)
  · refine SegG.take 4 rfl (by kernel_rfl) (by kernel_rfl) (by kernel_rfl) (by kernel_rfl) (by kernel_rfl) rfl rfl (fun w' hw' => Yd.fieldAddr rfl rfl) ?_
    refine SegG.take 5 rfl (by kernel_rfl) (by kernel_rfl) (by kernel_rfl) (by kernel_rfl) (by kernel_rfl) rfl rfl (fun w' hw' => Yd.load1 rfl rfl ((hB3.ext hw').row _ _ rfl)) ?_
    refine SegG.take 6 rfl (by kernel_rfl) (by kernel_rfl) (by kernel_rfl) (by kernel_rfl) (by kernel_rfl) rfl rfl (fun w' hw' => Yd.fieldAddr rfl rfl) ?_
    refine SegG.take 7 rfl (by kernel_rfl) (by kernel_rfl) (by kernel_rfl) (by kernel_rfl) (by kernel_rfl) rfl rfl (fun w' hw' => Yd.fieldAddr' rfl rfl) ?_
    refine SegG.take 8 rfl (by kernel_rfl) (by kernel_rfl) (by kernel_rfl) (by kernel_rfl) (by kernel_rfl) rfl rfl (fun w' hw' => Yd.load1 rfl rfl ((hB4.ext hw').row _ _ rfl)) ?_
    refine SegG.take 9 rfl (by kernel_rfl) (by kernel_rfl) (by kernel_rfl) (by kernel_rfl) (by kernel_rfl) rfl rfl (fun w' hw' => Yd.eql rfl rfl) ?_
    refine SegG.take 10 rfl (by kernel_rfl) (by kernel_rfl) (by kernel_rfl) (by kernel_rfl) (by kernel_rfl) rfl rfl (fun w' hw' => Yd.pickT rfl rfl) ?_
    refine SegG.take 11 rfl (by kernel_rfl) (by kernel_rfl) (by kernel_rfl) (by kernel_rfl) (by kernel_rfl) rfl rfl (fun w' hw' => Yd.move rfl) ?_
    refine SegG.gsplitp 12 rfl rfl rfl (fun h29 => ?_) (fun h29 => ?_)
    · refine SegG.take 12 rfl (by kernel_rfl) (by kernel_rfl) (by kernel_rfl) (by kernel_rfl) (by kernel_rfl) rfl rfl (fun w' hw' => Yd.loadN rfl rfl rfl (hB3.ext hw').row) ?_
      refine SegG.take 13 rfl (by kernel_rfl) (by kernel_rfl) (by kernel_rfl) (by kernel_rfl) (by kernel_rfl) rfl rfl (fun w' hw' => Yd.fieldAddr rfl rfl) ?_
      refine SegG.take 14 rfl (by kernel_rfl) (by kernel_rfl) (by kernel_rfl) (by kernel_rfl) (by kernel_rfl) rfl rfl (fun w' hw' => Yd.loadN rfl rfl rfl (Row.ext (show Row _ (Addr.add ⟨b4, 0, none⟩ 0) p.1.cells from hB4.row.part 0 18) hw')) ?_
      refine SegG.take 16 rfl (by kernel_rfl) (by kernel_rfl) (by kernel_rfl) (by kernel_rfl) (by kernel_rfl) rfl rfl (fun w' hw' => Yd.fieldAddr rfl rfl) ?_
      refine SegG.take 17 rfl (by kernel_rfl) (by kernel_rfl) (by kernel_rfl) (by kernel_rfl) (by kernel_rfl) rfl rfl (fun w' hw' => Yd.load1 rfl rfl ((hB4.ext hw').row _ _ rfl)) ?_
      refine SegG.oneSeg (o := ⟨_, _, _, _, _, _⟩) 15 rfl (by kernel_rfl) ?_
      (refine Seg.call rfl rfl (own_of rfl) rfl (common20 a p.1 _ ha hp (by assumption)) ?_; rintro _ w37 ⟨⟨m, rfl, hm⟩, hE37⟩)
      replace hE14 := Ext.trans hE14 hE37
      replace hE9 := Ext.trans hE9 hE37
      replace hE4 := Ext.trans hE4 hE37
      replace hB4 := hB4.ext hE37
      replace hE3 := Ext.trans hE3 hE37
      replace hB3 := hB3.ext hE37
      replace hE0 := Ext.trans hE0 hE37
      refine SegG.back rfl (by first | assumption | exact Ext.refl _) ?_
      refine SegG.take 18 rfl (by kernel_rfl) (by kernel_rfl) (by kernel_rfl) (by kernel_rfl) (by kernel_rfl) rfl rfl (fun w' hw' => Yd.geq rfl rfl) ?_
      refine SegG.take 19 rfl (by kernel_rfl) (by kernel_rfl) (by kernel_rfl) (by kernel_rfl) (by kernel_rfl) rfl rfl (fun w' hw' => Yd.pickT rfl rfl) ?_
      refine SegG.take 20 rfl (by kernel_rfl) (by kernel_rfl) (by kernel_rfl) (by kernel_rfl) (by kernel_rfl) rfl rfl (fun w' hw' => Yd.assign rfl) ?_
      refine SegG.done (by kernel_rfl) ?_
      refine At.then_ ?_
      refine Cd.ret ?_
      exact At.ret Try.results13 (.tmp rfl .nil) ⟨win_iff he (by assumption) (by assumption) hm, by assumption⟩
    · refine SegG.skip 12 rfl (by kernel_rfl) (by kernel_rfl) (by kernel_rfl) (by kernel_rfl) (by kernel_rfl) rfl rfl ?_
      refine SegG.skip 13 rfl (by kernel_rfl) (by kernel_rfl) (by kernel_rfl) (by kernel_rfl) (by kernel_rfl) rfl rfl ?_
      refine SegG.skip 14 rfl (by kernel_rfl) (by kernel_rfl) (by kernel_rfl) (by kernel_rfl) (by kernel_rfl) rfl rfl ?_
      refine SegG.skip 15 rfl (by kernel_rfl) (by kernel_rfl) (by kernel_rfl) (by kernel_rfl) (by kernel_rfl) rfl rfl ?_
      refine SegG.skip 16 rfl (by kernel_rfl) (by kernel_rfl) (by kernel_rfl) (by kernel_rfl) (by kernel_rfl) rfl rfl ?_
      refine SegG.skip 17 rfl (by kernel_rfl) (by kernel_rfl) (by kernel_rfl) (by kernel_rfl) (by kernel_rfl) rfl rfl ?_
      refine SegG.skip 18 rfl (by kernel_rfl) (by kernel_rfl) (by kernel_rfl) (by kernel_rfl) (by kernel_rfl) rfl rfl ?_
      refine SegG.take 19 rfl (by kernel_rfl) (by kernel_rfl) (by kernel_rfl) (by kernel_rfl) (by kernel_rfl) rfl rfl (fun w' hw' => Yd.pickF rfl rfl) ?_
      refine SegG.take 20 rfl (by kernel_rfl) (by kernel_rfl) (by kernel_rfl) (by kernel_rfl) (by kernel_rfl) rfl rfl (fun w' hw' => Yd.assign rfl) ?_
      refine SegG.done (by kernel_rfl) ?_
      refine At.then_ ?_
      refine Cd.ret ?_
      exact At.ret Try.results13 (.tmp rfl .nil) ⟨win_fam (by assumption), by assumption⟩
  · refine SegG.skip 4 rfl (by kernel_rfl) (by kernel_rfl) (by kernel_rfl) (by kernel_rfl) (by kernel_rfl) rfl rfl ?_
    refine SegG.skip 5 rfl (by kernel_rfl) (by kernel_rfl) (by kernel_rfl) (by kernel_rfl) (by kernel_rfl) rfl rfl ?_
    refine SegG.skip 6 rfl (by kernel_rfl) (by kernel_rfl) (by kernel_rfl) (by kernel_rfl) (by kernel_rfl) rfl rfl ?_
    refine SegG.skip 7 rfl (by kernel_rfl) (by kernel_rfl) (by kernel_rfl) (by kernel_rfl) (by kernel_rfl) rfl rfl ?_
    refine SegG.skip 8 rfl (by kernel_rfl) (by kernel_rfl) (by kernel_rfl) (by kernel_rfl) (by kernel_rfl) rfl rfl ?_
    refine SegG.skip 9 rfl (by kernel_rfl) (by kernel_rfl) (by kernel_rfl) (by kernel_rfl) (by kernel_rfl) rfl rfl ?_
    refine SegG.take 10 rfl (by kernel_rfl) (by kernel_rfl) (by kernel_rfl) (by kernel_rfl) (by kernel_rfl) rfl rfl (fun w' hw' => Yd.pickF rfl rfl) ?_
    refine SegG.take 11 rfl (by kernel_rfl) (by kernel_rfl) (by kernel_rfl) (by kernel_rfl) (by kernel_rfl) rfl rfl (fun w' hw' => Yd.move rfl) ?_
    refine SegG.skip 12 rfl (by kernel_rfl) (by kernel_rfl) (by kernel_rfl) (by kernel_rfl) (by kernel_rfl) rfl rfl ?_
    refine SegG.skip 13 rfl (by kernel_rfl) (by kernel_rfl) (by kernel_rfl) (by kernel_rfl) (by kernel_rfl) rfl rfl ?_
    refine SegG.skip 14 rfl (by kernel_rfl) (by kernel_rfl) (by kernel_rfl) (by kernel_rfl) (by kernel_rfl) rfl rfl ?_
    refine SegG.skip 15 rfl (by kernel_rfl) (by kernel_rfl) (by kernel_rfl) (by kernel_rfl) (by kernel_rfl) rfl rfl ?_
    refine SegG.skip 16 rfl (by kernel_rfl) (by kernel_rfl) (by kernel_rfl) (by kernel_rfl) (by kernel_rfl) rfl rfl ?_
    refine SegG.skip 17 rfl (by kernel_rfl) (by kernel_rfl) (by kernel_rfl) (by kernel_rfl) (by kernel_rfl) rfl rfl ?_
    refine SegG.skip 18 rfl (by kernel_rfl) (by kernel_rfl) (by kernel_rfl) (by kernel_rfl) (by kernel_rfl) rfl rfl ?_
    refine SegG.take 19 rfl (by kernel_rfl) (by kernel_rfl) (by kernel_rfl) (by kernel_rfl) (by kernel_rfl) rfl rfl (fun w' hw' => Yd.pickF rfl rfl) ?_
    refine SegG.take 20 rfl (by kernel_rfl) (by kernel_rfl) (by kernel_rfl) (by kernel_rfl) (by kernel_rfl) rfl rfl (fun w' hw' => Yd.assign rfl) ?_
    refine SegG.done (by kernel_rfl) ?_
    refine At.then_ ?_
    refine Cd.ret ?_
    exact At.ret Try.results13 (.tmp rfl .nil) ⟨win_err he (by assumption), by assumption⟩
end Go.Proofs.Ytdomaooegpeneaa
