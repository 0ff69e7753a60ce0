/- The walk of the law ChainEnds. -/
import Derived.Test.YtidhelgoopdloaaWrk
namespace Go.Proofs.Ytidhelgoopdloaa
open Go Go.RowKit
/-- A slice whose cells lie below block K. -/
def SlK (w : World) (K k : Nat) (v : Value) (m : Nat) (cs : List Value) : Prop := Sl w k v m cs ∧ SlLt K v
theorem SlK.ext {w w' : World} {K k m : Nat} {v : Value} {cs : List Value} (h : SlK w K k v m cs) (hE : Ext w w') : SlK w' K k v m cs := ⟨h.1.ext hE, h.2⟩
theorem SlK.wr {w w' : World} {K k m b : Nat} {v : Value} {cs : List Value} (h : SlK w K k v m cs) (hg : Wr b w w') (hb : K ≤ b) : SlK w' K k v m cs := ⟨h.1.wr hg (h.2.off hb), h.2⟩
set_option maxHeartbeats 400000 in
theorem law26b (rs : List Rec) (qn : Name) (vq v1 : Value) (qt qc : Int) (w : World) (h0 : RecsAt w v1 rs) (h1 : NameAt w vq qn) (hh : ∀ r ∈ rs, HeldR r) (hq : Held qn) :
    Ret Try.prog 5 #[.agg #[vq, .int .i64 qt, .int .i64 qc], v1] w fun v w' => v = .bool true ∧ Ext w w' := by
  have hE0 := Ext.refl w
  refine Ret.body Try.func5 rfl Try.ntmps5 rfl ?_
  refine Cd.seq ?_
  refine Cd.region ?_
  refine Seg.box rfl rfl rfl (fun w4 b4 hE4 hB4 hb4 => ?_)
  have hlt4_0 := Nat.le_trans hE0.size hb4
  replace h0 := h0.ext hE4
  replace hE0 := Ext.trans hE0 hE4
  refine Seg.step rfl rfl (Yd.assign rfl) ?_
  refine Seg.nil ?_
  refine At.then_ ?_
  refine Cd.seq ?_
  refine Cd.seq ?_
  refine Cd.region ?_
  (refine Seg.call rfl rfl (own_of rfl) rfl (works26 _) ?_; rintro _ w11 ⟨rfl, hE11⟩)
  replace hE4 := Ext.trans hE4 hE11
  replace hB4 := hB4.ext hE11
  replace h0 := h0.ext hE11
  replace hE0 := Ext.trans hE0 hE11
  refine Seg.step rfl rfl (Yd.not rfl) ?_
  refine Seg.step rfl rfl (Yd.move rfl) ?_
  refine Seg.step rfl rfl (Yd.move rfl) ?_
  (refine Seg.call rfl rfl (own_of rfl) rfl (small26 rs v1 _ h0 hh) ?_; rintro _ w15 ⟨⟨b1, rfl, k1⟩, hE15⟩)
  replace hE11 := Ext.trans hE11 hE15
  replace hE4 := Ext.trans hE4 hE15
  replace hB4 := hB4.ext hE15
  replace h0 := h0.ext hE15
  replace hE0 := Ext.trans hE0 hE15
  refine Seg.step rfl rfl (Yd.not rfl) ?_
  refine Seg.step rfl rfl (Yd.pickF rfl rfl) ?_
  refine Seg.step rfl rfl (Yd.move rfl) ?_
  refine Seg.gsplit rfl rfl (fun h19 => ?_) (fun h19 => ?_)
  · refine Seg.skip rfl rfl ?_
    refine Seg.skip rfl rfl ?_
    refine Seg.skip rfl rfl ?_
    refine Seg.skip rfl rfl ?_
    refine Seg.step rfl rfl (Yd.pickT rfl rfl) ?_
    refine Seg.nil ?_
    refine At.then_ ?_
    refine Cd.condT rfl ?_
    refine Cd.seq ?_
    refine Cd.region ?_
    (refine Seg.call rfl rfl (own_of rfl) rfl (works26 _) ?_; rintro _ w31 ⟨rfl, hE31⟩)
    replace hE15 := Ext.trans hE15 hE31
    replace hE11 := Ext.trans hE11 hE31
    replace hE4 := Ext.trans hE4 hE31
    replace hB4 := hB4.ext hE31
    replace h0 := h0.ext hE31
    replace hE0 := Ext.trans hE0 hE31
    refine Seg.step rfl rfl (Yd.assign rfl) ?_
    refine Seg.nil ?_
    refine At.then_ ?_
    refine Cd.ret ?_
    refine At.then_ret ?_
    exact At.ret Try.results5 (.tmp rfl .nil) ⟨rfl, hE0⟩
  refine Seg.step rfl rfl (Yd.fieldAddr rfl rfl) ?_
  refine Seg.step rfl rfl (Yd.load1 rfl rfl (hB4.row _ _ rfl)) ?_
  (refine Seg.call rfl rfl (own_of rfl) rfl (few_any qn vq _ (h1.ext hE0) hq) ?_; rintro _ w41 ⟨⟨b2, rfl, k2⟩, hE41⟩)
  replace hE15 := Ext.trans hE15 hE41
  replace hE11 := Ext.trans hE11 hE41
  replace hE4 := Ext.trans hE4 hE41
  replace hB4 := hB4.ext hE41
  replace h0 := h0.ext hE41
  replace hE0 := Ext.trans hE0 hE41
  refine Seg.step rfl rfl (Yd.not rfl) ?_
  refine Seg.step rfl rfl (Yd.pickF rfl rfl) ?_
  refine Seg.nil ?_
  refine At.then_ ?_
  refine Cd.condkb rfl (fun h46 => ?_) (fun h46 => ?_)
  · refine Cd.seq ?_
    refine Cd.region ?_
    (refine Seg.call rfl rfl (own_of rfl) rfl (works26 _) ?_; rintro _ w50 ⟨rfl, hE50⟩)
    replace hE41 := Ext.trans hE41 hE50
    replace hE15 := Ext.trans hE15 hE50
    replace hE11 := Ext.trans hE11 hE50
    replace hE4 := Ext.trans hE4 hE50
    replace hB4 := hB4.ext hE50
    replace h0 := h0.ext hE50
    replace hE0 := Ext.trans hE0 hE50
    refine Seg.step rfl rfl (Yd.assign rfl) ?_
    refine Seg.nil ?_
    refine At.then_ ?_
    refine Cd.ret ?_
    refine At.then_ret ?_
    exact At.ret Try.results5 (.tmp rfl .nil) ⟨rfl, hE0⟩
  refine Cd.skip ?_
  refine At.then_ ?_
  refine Cd.seq ?_
  refine Cd.region ?_
  refine Seg.step rfl rfl (Yd.loadN rfl rfl rfl hB4.row) ?_
  refine Seg.step rfl rfl (Yd.move rfl) ?_
  obtain ⟨hl, hf⟩ := k1 (by simpa using h19)
  have hfq := k2 (by simpa using h46)
  have hF := fol_fine (qt := qt) (qc := qc) (rs := rs) (n := qn)
  have hcall := follow_any rs qn vq v1 qt qc w41 h0 (h1.ext hE0) hf hfq (by omega)
  rw [show fol qt qc rs 16 qn false 0 = folR qt qc rs qn from rfl] at hcall
  generalize folR qt qc rs qn = o at hF hcall
  have hc2 : Ret Try.prog 14 #[.agg #[vq, .int .i64 qt, .int .i64 qc], v1] w41 fun v w' => (∃ an cn ar cr, v = .tuple #[.agg #[.slice an o.nm.length cn, .slice ar o.rs.length cr, .int .i64 o.ttl, .int .i64 o.links], .int .i64 o.e] ∧ NmB w' w'.heap.size (.slice an o.nm.length cn) o.nm ∧ SlK w' w'.heap.size 33 (.slice ar o.rs.length cr) o.rs.length (recsV o.rs)) ∧ Ext w41 w' := hcall.mono (by
    rintro _ w4 ⟨⟨vn, vr, rfl, hvn, hvr⟩, hE⟩
    obtain ⟨an, cn, rfl⟩ := name_shape hvn
    obtain ⟨ar, cr, rfl⟩ := recsAt_shape hvr
    exact ⟨⟨an, cn, ar, cr, rfl, ⟨hvn, hvn.lt⟩, hvr.1, hvr.1.lt⟩, hE⟩)
  clear hcall
  obtain ⟨nm, R, ttl, L, e⟩ := o
  clear h0
  rcases hF with ⟨_, he⟩ | ⟨he, hL0, hL1, hnm, httl, hR0⟩
  · cases he
    (refine Seg.call rfl rfl (own_of rfl) rfl hc2 ?_; rintro _ w47 ⟨⟨an, cn, ar, cr, rfl, hvn, hvr⟩, hE47⟩)
    replace hE41 := Ext.trans hE41 hE47
    replace hE15 := Ext.trans hE15 hE47
    replace hE11 := Ext.trans hE11 hE47
    replace hE4 := Ext.trans hE4 hE47
    replace hB4 := hB4.ext hE47
    replace hE0 := Ext.trans hE0 hE47
    refine Seg.step rfl rfl (Yd.move rfl) ?_
    refine Seg.step rfl rfl (Yd.extract rfl rfl) ?_
    refine Seg.step rfl rfl (Yd.extract rfl rfl) ?_
    refine Seg.alloc rfl rfl rfl (fun w51 b51 hE51 hB51 hb51 => ?_)
    have hlt51_0 := Nat.le_trans hE47.size hb51
    have hlt51_1 := Nat.le_trans hE41.size hb51
    have hlt51_2 := Nat.le_trans hE15.size hb51
    have hlt51_3 := Nat.le_trans hE11.size hb51
    have hlt51_4 := Nat.le_trans hE4.size hb51
    have hlt51_5 := Nat.lt_of_lt_of_le hB4.lt hb51
    have hlt51_6 := Nat.le_trans hE0.size hb51
    replace hE47 := Ext.trans hE47 hE51
    replace hvn := hvn.ext hE51
    replace hvr := hvr.ext hE51
    replace hE41 := Ext.trans hE41 hE51
    replace hE15 := Ext.trans hE15 hE51
    replace hE11 := Ext.trans hE11 hE51
    replace hE4 := Ext.trans hE4 hE51
    replace hB4 := hB4.ext hE51
    replace hE0 := Ext.trans hE0 hE51
    refine Seg.storeN rfl rfl rfl rfl hB51 rfl (by first | assumption | exact List.all_eq_true.1 rfl) (fun w52 hW52 hB52 => ?_)
    clear hB51
    replace hE51 := Ext.wr' hE51 hW52 (by omega)
    replace hE47 := Ext.wr' hE47 hW52 (by omega)
    replace hvn := hvn.wr hW52 (by omega)
    replace hvr := hvr.wr hW52 (by omega)
    replace hE41 := Ext.wr' hE41 hW52 (by omega)
    replace hE15 := Ext.wr' hE15 hW52 (by omega)
    replace hE11 := Ext.wr' hE11 hW52 (by omega)
    replace hE4 := Ext.wr' hE4 hW52 (by omega)
    replace hB4 := hB4.wr hW52 (by omega)
    replace hE0 := Ext.wr' hE0 hW52 (by omega)
    refine Seg.step rfl rfl (Yd.assign rfl) ?_
    refine Seg.nil ?_
    refine At.then_ ?_
    refine Cd.seq ?_
    refine Cd.seq ?_
    refine Cd.region ?_
    refine Seg.step rfl rfl (Yd.move rfl) ?_
    refine Seg.step rfl rfl (Yd.neq rfl rfl) ?_
    refine Seg.step rfl rfl (Yd.move rfl) ?_
    refine Seg.step rfl rfl (Yd.move rfl) ?_
    refine Seg.step rfl rfl (Yd.neq rfl rfl) ?_
    refine Seg.step rfl rfl (Yd.pickT rfl rfl) ?_
    refine Seg.nil ?_
    refine At.then_ ?_
    refine Cd.condT rfl ?_
    refine Cd.seq ?_
    refine Cd.region ?_
    refine Seg.step rfl rfl (Yd.move rfl) ?_
    refine Seg.step rfl rfl (Yd.eql rfl rfl) ?_
    refine Seg.step rfl rfl (Yd.move rfl) ?_
    refine Seg.step rfl rfl (Yd.fieldAddr rfl rfl) ?_
    refine Seg.step rfl rfl (Yd.load1 rfl rfl (hB52.row _ _ rfl)) ?_
    refine Seg.step rfl rfl (Yd.eql rfl rfl) ?_
    refine Seg.step rfl rfl (Yd.pickT rfl rfl) ?_
    refine Seg.step rfl rfl (Yd.move rfl) ?_
    refine Seg.step rfl rfl (Yd.fieldAddr rfl rfl) ?_
    refine Seg.step rfl rfl (Yd.load1 rfl rfl (hB52.row _ _ rfl)) ?_
    refine Seg.step rfl rfl (Yd.lenS rfl rfl) ?_
    refine Seg.step rfl rfl (Yd.eql rfl rfl) ?_
    refine Seg.step rfl rfl (Yd.pickT rfl rfl) ?_
    refine Seg.step rfl rfl (Yd.move rfl) ?_
    refine Seg.step rfl rfl (Yd.fieldAddr rfl rfl) ?_
    refine Seg.step rfl rfl (Yd.load1 rfl rfl (hB52.row _ _ rfl)) ?_
    refine Seg.step rfl rfl (Yd.lenS rfl rfl) ?_
    refine Seg.step rfl rfl (Yd.eql rfl rfl) ?_
    refine Seg.step rfl rfl (Yd.pickT rfl rfl) ?_
    refine Seg.step rfl rfl (Yd.assign rfl) ?_
    refine Seg.nil ?_
    refine At.then_ ?_
    refine Cd.ret ?_
    refine At.then_ret ?_
    exact At.ret Try.results5 (.tmp rfl .nil) ⟨rfl, hE0⟩
  · simp only at he hL0 hL1 hnm httl hc2 hR0
    have hRb : R.length ≤ 60 := by rw [hR0]; exact Nat.le_trans (recsOf_le _ _ _ _) hl
    clear hR0
    rcases he with ⟨rfl, hR⟩ | ⟨rfl, rfl⟩
    · have hRl : 0 < R.length := List.length_pos_iff.2 hR
      have hne : (decide (0 < (R.length : Int)) != decide ((0 : Int) = 0)) = false := by simp [hRl]
      by_cases hLz : L = 0
      · obtain rfl : nm = qn := hnm (by omega)
        (refine Seg.call rfl rfl (own_of rfl) rfl hc2 ?_; rintro _ w47 ⟨⟨an, cn, ar, cr, rfl, hvn, hvr⟩, hE47⟩)
        replace hE41 := Ext.trans hE41 hE47
        replace hE15 := Ext.trans hE15 hE47
        replace hE11 := Ext.trans hE11 hE47
        replace hE4 := Ext.trans hE4 hE47
        replace hB4 := hB4.ext hE47
        replace hE0 := Ext.trans hE0 hE47
        refine Seg.step rfl rfl (Yd.move rfl) ?_
        refine Seg.step rfl rfl (Yd.extract rfl rfl) ?_
        refine Seg.step rfl rfl (Yd.extract rfl rfl) ?_
        refine Seg.alloc rfl rfl rfl (fun w51 b51 hE51 hB51 hb51 => ?_)
        have hlt51_0 := Nat.le_trans hE47.size hb51
        have hlt51_1 := Nat.le_trans hE41.size hb51
        have hlt51_2 := Nat.le_trans hE15.size hb51
        have hlt51_3 := Nat.le_trans hE11.size hb51
        have hlt51_4 := Nat.le_trans hE4.size hb51
        have hlt51_5 := Nat.lt_of_lt_of_le hB4.lt hb51
        have hlt51_6 := Nat.le_trans hE0.size hb51
        replace hE47 := Ext.trans hE47 hE51
        replace hvn := hvn.ext hE51
        replace hvr := hvr.ext hE51
        replace hE41 := Ext.trans hE41 hE51
        replace hE15 := Ext.trans hE15 hE51
        replace hE11 := Ext.trans hE11 hE51
        replace hE4 := Ext.trans hE4 hE51
        replace hB4 := hB4.ext hE51
        replace hE0 := Ext.trans hE0 hE51
        refine Seg.storeN rfl rfl rfl rfl hB51 rfl (by first | assumption | exact List.all_eq_true.1 rfl) (fun w52 hW52 hB52 => ?_)
        clear hB51
        replace hE51 := Ext.wr' hE51 hW52 (by omega)
        replace hE47 := Ext.wr' hE47 hW52 (by omega)
        replace hvn := hvn.wr hW52 (by omega)
        replace hvr := hvr.wr hW52 (by omega)
        replace hE41 := Ext.wr' hE41 hW52 (by omega)
        replace hE15 := Ext.wr' hE15 hW52 (by omega)
        replace hE11 := Ext.wr' hE11 hW52 (by omega)
        replace hE4 := Ext.wr' hE4 hW52 (by omega)
        replace hB4 := hB4.wr hW52 (by omega)
        replace hE0 := Ext.wr' hE0 hW52 (by omega)
        refine Seg.step rfl rfl (Yd.assign rfl) ?_
        refine Seg.nil ?_
        refine At.then_ ?_
        refine Cd.seq ?_
        refine Cd.seq ?_
        refine Cd.region ?_
        refine Seg.step rfl rfl (Yd.move rfl) ?_
        refine Seg.step rfl rfl (Yd.neq rfl rfl) ?_
        refine Seg.step rfl rfl (Yd.move rfl) ?_
        refine Seg.skip rfl rfl ?_
        refine Seg.skip rfl rfl ?_
        refine Seg.step rfl rfl (Yd.pickF rfl rfl) ?_
        refine Seg.nil ?_
        refine At.then_ ?_
        refine Cd.condF rfl ?_
        refine Cd.skip ?_
        refine At.then_ ?_
        refine Cd.seq ?_
        refine Cd.seq ?_
        refine Cd.region ?_
        refine Seg.step rfl rfl (Yd.fieldAddr rfl rfl) ?_
        refine Seg.step rfl rfl (Yd.load1 rfl rfl (hB52.row _ _ rfl)) ?_
        refine Seg.step rfl rfl (Yd.lss rfl rfl) ?_
        refine Seg.step rfl rfl (Yd.move rfl) ?_
        refine Seg.gsplitp rfl rfl (fun h77 => ?_) (fun h77 => ?_)
        · exfalso; omega
        refine Seg.step rfl rfl (Yd.fieldAddr rfl rfl) ?_
        refine Seg.step rfl rfl (Yd.load1 rfl rfl (hB52.row _ _ rfl)) ?_
        refine Seg.step rfl rfl (Yd.gtr rfl rfl) ?_
        refine Seg.step rfl rfl (Yd.pickF rfl rfl) ?_
        refine Seg.step rfl rfl (Yd.move rfl) ?_
        refine Seg.gsplitp rfl rfl (fun h84 => ?_) (fun h84 => ?_)
        · exfalso; omega
        refine Seg.step rfl rfl (Yd.fieldAddr rfl rfl) ?_
        refine Seg.step rfl rfl (Yd.load1 rfl rfl (hB52.row _ _ rfl)) ?_
        refine Seg.step rfl rfl (Yd.lenS rfl rfl) ?_
        refine Seg.step rfl rfl (Yd.gtr rfl rfl) ?_
        refine Seg.step rfl rfl (Yd.move rfl) ?_
        refine Seg.step rfl rfl (Yd.eql rfl rfl) ?_
        refine Seg.step rfl rfl (Yd.neqB rfl rfl rfl) ?_
        refine Seg.step rfl rfl (Yd.pickF rfl rfl) ?_
        refine Seg.step rfl rfl (Yd.move rfl) ?_
        refine Seg.gsplit rfl rfl (fun h95 => ?_) (fun h95 => ?_)
        · refine Seg.skip rfl rfl ?_
          refine Seg.skip rfl rfl ?_
          refine Seg.skip rfl rfl ?_
          refine Seg.skip rfl rfl ?_
          refine Seg.skip rfl rfl ?_
          refine Seg.skip rfl rfl ?_
          refine Seg.skip rfl rfl ?_
          refine Seg.skip rfl rfl ?_
          refine Seg.skip rfl rfl ?_
          refine Seg.skip rfl rfl ?_
          refine Seg.skip rfl rfl ?_
          refine Seg.step rfl rfl (Yd.pickT rfl rfl) ?_
          refine Seg.nil ?_
          refine At.then_ ?_
          refine Cd.condT rfl ?_
          refine Cd.seq ?_
          refine Cd.region ?_
          refine Seg.step rfl rfl (Yd.assign rfl) ?_
          refine Seg.nil ?_
          refine At.then_ ?_
          refine Cd.ret ?_
          refine At.then_ret ?_
          exact Bool.noConfusion (hne.symm.trans (by assumption))
        refine Seg.step rfl rfl (Yd.fieldAddr rfl rfl) ?_
        refine Seg.step rfl rfl (Yd.load1 rfl rfl (hB52.row _ _ rfl)) ?_
        refine Seg.step rfl rfl (Yd.eql rfl rfl) ?_
        refine Seg.step rfl rfl (Yd.move rfl) ?_
        refine Seg.gsplitp rfl rfl (fun h125 => ?_) (fun h125 => ?_)
        rotate_left 1
        · exfalso; omega
        rotate_right 1
        refine Seg.step rfl rfl (Yd.fieldAddr rfl rfl) ?_
        refine Seg.step rfl rfl (Yd.load1 rfl rfl (hB52.row _ _ rfl)) ?_
        refine Seg.step rfl rfl (Yd.fieldAddr rfl rfl) ?_
        refine Seg.step rfl rfl (Yd.load1 rfl rfl (hB4.row _ _ rfl)) ?_
        (refine Seg.call rfl rfl (own_of rfl) rfl (exact_any nm nm _ _ _ hvn.1 (h1.ext hE0) (by have := hfq.1; omega)) ?_; rintro _ w131 ⟨rfl, hE131⟩)
        replace hW52 := Wr.trans hW52 (Ext.wr hE131 _)
        replace hB52 := hB52.ext hE131
        replace hE51 := Ext.trans hE51 hE131
        replace hE47 := Ext.trans hE47 hE131
        replace hvn := hvn.ext hE131
        replace hvr := hvr.ext hE131
        replace hE41 := Ext.trans hE41 hE131
        replace hE15 := Ext.trans hE15 hE131
        replace hE11 := Ext.trans hE11 hE131
        replace hE4 := Ext.trans hE4 hE131
        replace hB4 := hB4.ext hE131
        replace hE0 := Ext.trans hE0 hE131
        refine Seg.step rfl rfl (Yd.notp rfl) ?_
        refine Seg.step rfl rfl (Yd.pickT rfl rfl) ?_
        refine Seg.step rfl rfl (Yd.pickF rfl rfl) ?_
        refine Seg.nil ?_
        refine At.then_ ?_
        refine Cd.condk rfl (fun h137 => ?_) (fun h137 => ?_)
        · refine Cd.seq ?_
          refine Cd.region ?_
          refine Seg.step rfl rfl (Yd.assign rfl) ?_
          refine Seg.nil ?_
          refine At.then_ ?_
          refine Cd.ret ?_
          refine At.then_ret ?_
          exact absurd rfl (by assumption : ¬ nm = nm)
        refine Cd.skip ?_
        refine At.then_ ?_
        refine Cd.seq ?_
        refine Cd.seq ?_
        refine Cd.region ?_
        refine Seg.step rfl rfl (Yd.assign rfl) ?_
        refine Seg.nil ?_
        refine At.then_ ?_
        refine Cd.block ?_
        refine Cd.loop (σ := Nat) (fun i => [(5, .pointer (some ⟨b51, 0, none⟩)), (7, .int .i64 i)])
          (fun i w' => i ≤ R.length ∧ Bx w' b51 [.slice an nm.length cn, .slice ar R.length cr, .int .i64 ttl, .int .i64 L] ∧ SlK w' w47.heap.size 33 (.slice ar R.length cr) R.length (recsV R) ∧ Ext w w')
          (fun i => R.length - i) 0 (.cons rfl (.cons rfl (.nil _))) ⟨Nat.zero_le _, by assumption, by assumption, hE0⟩ ?_
        rintro i w0 ⟨hi, hB, hS, hE⟩
        clear hvr hE0 hE4 hE11 hE15 hE41 hE47 hE51
        try clear hB52 hW52
        by_cases hlt : i < R.length
        · obtain ⟨⟨ar', cr', he, hl1, hr1, hz1⟩, _⟩ := id hS
          cases he
          obtain ⟨a, rfl⟩ : ∃ a, ar = some a := by
            cases ar with
            | none => have := hz1 rfl; omega
            | some a => exact ⟨a, rfl⟩
          obtain ⟨r, hri⟩ : ∃ r, R[i]? = some r := ⟨_, List.getElem?_eq_getElem hlt⟩
          have hmem := httl r (List.mem_of_getElem? hri)
          have hrow := recs_part (hr1 a rfl) hri
          refine Cd.seq ?_
          refine Cd.seq ?_
          refine Cd.region ?_
          refine Seg.step rfl rfl (Yd.move rfl) ?_
          refine Seg.step rfl rfl (Yd.fieldAddr rfl rfl) ?_
          refine Seg.step rfl rfl (Yd.load1 rfl rfl (hB.row _ _ rfl)) ?_
          refine Seg.step rfl rfl (Yd.lenS rfl rfl) ?_
          refine Seg.step rfl rfl (Yd.lss rfl rfl) ?_
          refine Seg.nil ?_
          refine At.then_ ?_
          refine Cd.condk rfl (fun h148 => ?_) (fun h148 => ?_)
          · refine Cd.skip ?_
            refine At.then_ ?_
            refine Cd.seq ?_
            refine Cd.block ?_
            refine Cd.seq ?_
            refine Cd.quiet (by kernel_rfl) (by kernel_rfl) ?_
            refine SegQ.step rfl rfl (fun w' hw' => Yd.fieldAddr rfl rfl) ?_
            refine SegQ.step rfl rfl (fun w' hw' => Yd.load1 rfl rfl ((hB.ext hw').row _ _ rfl)) ?_
            refine SegQ.step rfl rfl (fun w' hw' => Yd.fieldAddr rfl rfl) ?_
            refine SegQ.step rfl rfl (fun w' hw' => Yd.load1 rfl rfl ((hB.ext hw').row _ _ rfl)) ?_
            refine SegQ.step rfl rfl (fun w' hw' => Yd.move rfl) ?_
            refine SegQ.step rfl rfl (fun w' hw' => Yd.indexAddr rfl rfl rfl (NatOf.cast _) (by omega)) ?_
            refine SegQ.step rfl rfl (fun w' hw' => Yd.fieldAddr rfl rfl) ?_
            refine SegQ.step rfl rfl (fun w' hw' => Yd.load1 rfl rfl ((hrow.ext hw') _ _ rfl)) ?_
            refine SegQ.step rfl rfl (fun w' hw' => Yd.gtr rfl rfl) ?_
            refine SegQ.nil fun w165 hE165 => ?_
            replace hE := Ext.trans hE hE165
            replace hB := hB.ext hE165
            replace hS := hS.ext hE165
            replace hrow := hrow.ext hE165
            refine At.then_ ?_
            refine Cd.condk rfl (fun h167 => ?_) (fun h167 => ?_)
            · exfalso; omega
            · refine Cd.skip ?_
              refine At.blk ?_
              refine At.then_ ?_
              refine Cd.region ?_
              refine Seg.step rfl rfl (Yd.move rfl) ?_
              refine Seg.step rfl rfl (Yd.addI rfl rfl (by omega)) ?_
              refine Seg.step rfl rfl (Yd.assign rfl) ?_
              refine Seg.nil ?_
              exact At.round (i + 1) (.cons rfl (.cons rfl (.nil _))) ⟨by omega, hB, hS, hE⟩ (by show _ - _ < _ - _; omega)
          · exfalso; omega
        · obtain rfl : i = R.length := by omega
          refine Cd.seq ?_
          refine Cd.seq ?_
          refine Cd.region ?_
          refine Seg.step rfl rfl (Yd.move rfl) ?_
          refine Seg.step rfl rfl (Yd.fieldAddr rfl rfl) ?_
          refine Seg.step rfl rfl (Yd.load1 rfl rfl (hB.row _ _ rfl)) ?_
          refine Seg.step rfl rfl (Yd.lenS rfl rfl) ?_
          refine Seg.step rfl rfl (Yd.lss rfl rfl) ?_
          refine Seg.nil ?_
          refine At.then_ ?_
          refine Cd.condk rfl (fun h148 => ?_) (fun h148 => ?_)
          · exfalso; omega
          · refine Cd.exit ?_
            refine At.then_exit ?_
            refine At.then_exit ?_
            refine At.blk_same ?_
            refine At.then_ ?_
            refine Cd.seq ?_
            refine Cd.region ?_
            refine Seg.step rfl rfl (Yd.assign rfl) ?_
            refine Seg.nil ?_
            refine At.then_ ?_
            refine Cd.ret ?_
            exact At.ret Try.results5 (.tmp rfl .nil) ⟨rfl, hE⟩
      · (refine Seg.call rfl rfl (own_of rfl) rfl hc2 ?_; rintro _ w47 ⟨⟨an, cn, ar, cr, rfl, hvn, hvr⟩, hE47⟩)
        replace hE41 := Ext.trans hE41 hE47
        replace hE15 := Ext.trans hE15 hE47
        replace hE11 := Ext.trans hE11 hE47
        replace hE4 := Ext.trans hE4 hE47
        replace hB4 := hB4.ext hE47
        replace hE0 := Ext.trans hE0 hE47
        refine Seg.step rfl rfl (Yd.move rfl) ?_
        refine Seg.step rfl rfl (Yd.extract rfl rfl) ?_
        refine Seg.step rfl rfl (Yd.extract rfl rfl) ?_
        refine Seg.alloc rfl rfl rfl (fun w51 b51 hE51 hB51 hb51 => ?_)
        have hlt51_0 := Nat.le_trans hE47.size hb51
        have hlt51_1 := Nat.le_trans hE41.size hb51
        have hlt51_2 := Nat.le_trans hE15.size hb51
        have hlt51_3 := Nat.le_trans hE11.size hb51
        have hlt51_4 := Nat.le_trans hE4.size hb51
        have hlt51_5 := Nat.lt_of_lt_of_le hB4.lt hb51
        have hlt51_6 := Nat.le_trans hE0.size hb51
        replace hE47 := Ext.trans hE47 hE51
        replace hvn := hvn.ext hE51
        replace hvr := hvr.ext hE51
        replace hE41 := Ext.trans hE41 hE51
        replace hE15 := Ext.trans hE15 hE51
        replace hE11 := Ext.trans hE11 hE51
        replace hE4 := Ext.trans hE4 hE51
        replace hB4 := hB4.ext hE51
        replace hE0 := Ext.trans hE0 hE51
        refine Seg.storeN rfl rfl rfl rfl hB51 rfl (by first | assumption | exact List.all_eq_true.1 rfl) (fun w52 hW52 hB52 => ?_)
        clear hB51
        replace hE51 := Ext.wr' hE51 hW52 (by omega)
        replace hE47 := Ext.wr' hE47 hW52 (by omega)
        replace hvn := hvn.wr hW52 (by omega)
        replace hvr := hvr.wr hW52 (by omega)
        replace hE41 := Ext.wr' hE41 hW52 (by omega)
        replace hE15 := Ext.wr' hE15 hW52 (by omega)
        replace hE11 := Ext.wr' hE11 hW52 (by omega)
        replace hE4 := Ext.wr' hE4 hW52 (by omega)
        replace hB4 := hB4.wr hW52 (by omega)
        replace hE0 := Ext.wr' hE0 hW52 (by omega)
        refine Seg.step rfl rfl (Yd.assign rfl) ?_
        refine Seg.nil ?_
        refine At.then_ ?_
        refine Cd.seq ?_
        refine Cd.seq ?_
        refine Cd.region ?_
        refine Seg.step rfl rfl (Yd.move rfl) ?_
        refine Seg.step rfl rfl (Yd.neq rfl rfl) ?_
        refine Seg.step rfl rfl (Yd.move rfl) ?_
        refine Seg.skip rfl rfl ?_
        refine Seg.skip rfl rfl ?_
        refine Seg.step rfl rfl (Yd.pickF rfl rfl) ?_
        refine Seg.nil ?_
        refine At.then_ ?_
        refine Cd.condF rfl ?_
        refine Cd.skip ?_
        refine At.then_ ?_
        refine Cd.seq ?_
        refine Cd.seq ?_
        refine Cd.region ?_
        refine Seg.step rfl rfl (Yd.fieldAddr rfl rfl) ?_
        refine Seg.step rfl rfl (Yd.load1 rfl rfl (hB52.row _ _ rfl)) ?_
        refine Seg.step rfl rfl (Yd.lss rfl rfl) ?_
        refine Seg.step rfl rfl (Yd.move rfl) ?_
        refine Seg.gsplitp rfl rfl (fun h77 => ?_) (fun h77 => ?_)
        · exfalso; omega
        refine Seg.step rfl rfl (Yd.fieldAddr rfl rfl) ?_
        refine Seg.step rfl rfl (Yd.load1 rfl rfl (hB52.row _ _ rfl)) ?_
        refine Seg.step rfl rfl (Yd.gtr rfl rfl) ?_
        refine Seg.step rfl rfl (Yd.pickF rfl rfl) ?_
        refine Seg.step rfl rfl (Yd.move rfl) ?_
        refine Seg.gsplitp rfl rfl (fun h84 => ?_) (fun h84 => ?_)
        · exfalso; omega
        refine Seg.step rfl rfl (Yd.fieldAddr rfl rfl) ?_
        refine Seg.step rfl rfl (Yd.load1 rfl rfl (hB52.row _ _ rfl)) ?_
        refine Seg.step rfl rfl (Yd.lenS rfl rfl) ?_
        refine Seg.step rfl rfl (Yd.gtr rfl rfl) ?_
        refine Seg.step rfl rfl (Yd.move rfl) ?_
        refine Seg.step rfl rfl (Yd.eql rfl rfl) ?_
        refine Seg.step rfl rfl (Yd.neqB rfl rfl rfl) ?_
        refine Seg.step rfl rfl (Yd.pickF rfl rfl) ?_
        refine Seg.step rfl rfl (Yd.move rfl) ?_
        refine Seg.gsplit rfl rfl (fun h95 => ?_) (fun h95 => ?_)
        · refine Seg.skip rfl rfl ?_
          refine Seg.skip rfl rfl ?_
          refine Seg.skip rfl rfl ?_
          refine Seg.skip rfl rfl ?_
          refine Seg.skip rfl rfl ?_
          refine Seg.skip rfl rfl ?_
          refine Seg.skip rfl rfl ?_
          refine Seg.skip rfl rfl ?_
          refine Seg.skip rfl rfl ?_
          refine Seg.skip rfl rfl ?_
          refine Seg.skip rfl rfl ?_
          refine Seg.step rfl rfl (Yd.pickT rfl rfl) ?_
          refine Seg.nil ?_
          refine At.then_ ?_
          refine Cd.condT rfl ?_
          refine Cd.seq ?_
          refine Cd.region ?_
          refine Seg.step rfl rfl (Yd.assign rfl) ?_
          refine Seg.nil ?_
          refine At.then_ ?_
          refine Cd.ret ?_
          refine At.then_ret ?_
          exact Bool.noConfusion (hne.symm.trans (by assumption))
        refine Seg.step rfl rfl (Yd.fieldAddr rfl rfl) ?_
        refine Seg.step rfl rfl (Yd.load1 rfl rfl (hB52.row _ _ rfl)) ?_
        refine Seg.step rfl rfl (Yd.eql rfl rfl) ?_
        refine Seg.step rfl rfl (Yd.move rfl) ?_
        refine Seg.gsplitp rfl rfl (fun h125 => ?_) (fun h125 => ?_)
        · exfalso; omega
        refine Seg.skip rfl rfl ?_
        refine Seg.skip rfl rfl ?_
        refine Seg.skip rfl rfl ?_
        refine Seg.skip rfl rfl ?_
        refine Seg.skip rfl rfl ?_
        refine Seg.skip rfl rfl ?_
        refine Seg.step rfl rfl (Yd.pickF rfl rfl) ?_
        refine Seg.step rfl rfl (Yd.pickF rfl rfl) ?_
        refine Seg.nil ?_
        refine At.then_ ?_
        refine Cd.condF rfl ?_
        refine Cd.skip ?_
        refine At.then_ ?_
        refine Cd.seq ?_
        refine Cd.seq ?_
        refine Cd.region ?_
        refine Seg.step rfl rfl (Yd.assign rfl) ?_
        refine Seg.nil ?_
        refine At.then_ ?_
        refine Cd.block ?_
        refine Cd.loop (σ := Nat) (fun i => [(5, .pointer (some ⟨b51, 0, none⟩)), (7, .int .i64 i)])
          (fun i w' => i ≤ R.length ∧ Bx w' b51 [.slice an nm.length cn, .slice ar R.length cr, .int .i64 ttl, .int .i64 L] ∧ SlK w' w47.heap.size 33 (.slice ar R.length cr) R.length (recsV R) ∧ Ext w w')
          (fun i => R.length - i) 0 (.cons rfl (.cons rfl (.nil _))) ⟨Nat.zero_le _, by assumption, by assumption, hE0⟩ ?_
        rintro i w0 ⟨hi, hB, hS, hE⟩
        clear hvr hE0 hE4 hE11 hE15 hE41 hE47 hE51
        try clear hB52 hW52
        by_cases hlt : i < R.length
        · obtain ⟨⟨ar', cr', he, hl1, hr1, hz1⟩, _⟩ := id hS
          cases he
          obtain ⟨a, rfl⟩ : ∃ a, ar = some a := by
            cases ar with
            | none => have := hz1 rfl; omega
            | some a => exact ⟨a, rfl⟩
          obtain ⟨r, hri⟩ : ∃ r, R[i]? = some r := ⟨_, List.getElem?_eq_getElem hlt⟩
          have hmem := httl r (List.mem_of_getElem? hri)
          have hrow := recs_part (hr1 a rfl) hri
          refine Cd.seq ?_
          refine Cd.seq ?_
          refine Cd.region ?_
          refine Seg.step rfl rfl (Yd.move rfl) ?_
          refine Seg.step rfl rfl (Yd.fieldAddr rfl rfl) ?_
          refine Seg.step rfl rfl (Yd.load1 rfl rfl (hB.row _ _ rfl)) ?_
          refine Seg.step rfl rfl (Yd.lenS rfl rfl) ?_
          refine Seg.step rfl rfl (Yd.lss rfl rfl) ?_
          refine Seg.nil ?_
          refine At.then_ ?_
          refine Cd.condk rfl (fun h136 => ?_) (fun h136 => ?_)
          · refine Cd.skip ?_
            refine At.then_ ?_
            refine Cd.seq ?_
            refine Cd.block ?_
            refine Cd.seq ?_
            refine Cd.quiet (by kernel_rfl) (by kernel_rfl) ?_
            refine SegQ.step rfl rfl (fun w' hw' => Yd.fieldAddr rfl rfl) ?_
            refine SegQ.step rfl rfl (fun w' hw' => Yd.load1 rfl rfl ((hB.ext hw').row _ _ rfl)) ?_
            refine SegQ.step rfl rfl (fun w' hw' => Yd.fieldAddr rfl rfl) ?_
            refine SegQ.step rfl rfl (fun w' hw' => Yd.load1 rfl rfl ((hB.ext hw').row _ _ rfl)) ?_
            refine SegQ.step rfl rfl (fun w' hw' => Yd.move rfl) ?_
            refine SegQ.step rfl rfl (fun w' hw' => Yd.indexAddr rfl rfl rfl (NatOf.cast _) (by omega)) ?_
            refine SegQ.step rfl rfl (fun w' hw' => Yd.fieldAddr rfl rfl) ?_
            refine SegQ.step rfl rfl (fun w' hw' => Yd.load1 rfl rfl ((hrow.ext hw') _ _ rfl)) ?_
            refine SegQ.step rfl rfl (fun w' hw' => Yd.gtr rfl rfl) ?_
            refine SegQ.nil fun w153 hE153 => ?_
            replace hE := Ext.trans hE hE153
            replace hB := hB.ext hE153
            replace hS := hS.ext hE153
            replace hrow := hrow.ext hE153
            refine At.then_ ?_
            refine Cd.condk rfl (fun h155 => ?_) (fun h155 => ?_)
            · exfalso; omega
            · refine Cd.skip ?_
              refine At.blk ?_
              refine At.then_ ?_
              refine Cd.region ?_
              refine Seg.step rfl rfl (Yd.move rfl) ?_
              refine Seg.step rfl rfl (Yd.addI rfl rfl (by omega)) ?_
              refine Seg.step rfl rfl (Yd.assign rfl) ?_
              refine Seg.nil ?_
              exact At.round (i + 1) (.cons rfl (.cons rfl (.nil _))) ⟨by omega, hB, hS, hE⟩ (by show _ - _ < _ - _; omega)
          · exfalso; omega
        · obtain rfl : i = R.length := by omega
          refine Cd.seq ?_
          refine Cd.seq ?_
          refine Cd.region ?_
          refine Seg.step rfl rfl (Yd.move rfl) ?_
          refine Seg.step rfl rfl (Yd.fieldAddr rfl rfl) ?_
          refine Seg.step rfl rfl (Yd.load1 rfl rfl (hB.row _ _ rfl)) ?_
          refine Seg.step rfl rfl (Yd.lenS rfl rfl) ?_
          refine Seg.step rfl rfl (Yd.lss rfl rfl) ?_
          refine Seg.nil ?_
          refine At.then_ ?_
          refine Cd.condk rfl (fun h136 => ?_) (fun h136 => ?_)
          · exfalso; omega
          · refine Cd.exit ?_
            refine At.then_exit ?_
            refine At.then_exit ?_
            refine At.blk_same ?_
            refine At.then_ ?_
            refine Cd.seq ?_
            refine Cd.region ?_
            refine Seg.step rfl rfl (Yd.assign rfl) ?_
            refine Seg.nil ?_
            refine At.then_ ?_
            refine Cd.ret ?_
            exact At.ret Try.results5 (.tmp rfl .nil) ⟨rfl, hE⟩
    · generalize hRR : ([] : List Rec) = R at *
      have hRl : R.length = 0 := by rw [← hRR]; rfl
      clear hRR
      have hne : (decide (0 < (R.length : Int)) != decide ((11 : Int) = 0)) = false := by simp [hRl]
      by_cases hLz : L = 0
      · obtain rfl : nm = qn := hnm (by omega)
        (refine Seg.call rfl rfl (own_of rfl) rfl hc2 ?_; rintro _ w47 ⟨⟨an, cn, ar, cr, rfl, hvn, hvr⟩, hE47⟩)
        replace hE41 := Ext.trans hE41 hE47
        replace hE15 := Ext.trans hE15 hE47
        replace hE11 := Ext.trans hE11 hE47
        replace hE4 := Ext.trans hE4 hE47
        replace hB4 := hB4.ext hE47
        replace hE0 := Ext.trans hE0 hE47
        refine Seg.step rfl rfl (Yd.move rfl) ?_
        refine Seg.step rfl rfl (Yd.extract rfl rfl) ?_
        refine Seg.step rfl rfl (Yd.extract rfl rfl) ?_
        refine Seg.alloc rfl rfl rfl (fun w51 b51 hE51 hB51 hb51 => ?_)
        have hlt51_0 := Nat.le_trans hE47.size hb51
        have hlt51_1 := Nat.le_trans hE41.size hb51
        have hlt51_2 := Nat.le_trans hE15.size hb51
        have hlt51_3 := Nat.le_trans hE11.size hb51
        have hlt51_4 := Nat.le_trans hE4.size hb51
        have hlt51_5 := Nat.lt_of_lt_of_le hB4.lt hb51
        have hlt51_6 := Nat.le_trans hE0.size hb51
        replace hE47 := Ext.trans hE47 hE51
        replace hvn := hvn.ext hE51
        replace hvr := hvr.ext hE51
        replace hE41 := Ext.trans hE41 hE51
        replace hE15 := Ext.trans hE15 hE51
        replace hE11 := Ext.trans hE11 hE51
        replace hE4 := Ext.trans hE4 hE51
        replace hB4 := hB4.ext hE51
        replace hE0 := Ext.trans hE0 hE51
        refine Seg.storeN rfl rfl rfl rfl hB51 rfl (by first | assumption | exact List.all_eq_true.1 rfl) (fun w52 hW52 hB52 => ?_)
        clear hB51
        replace hE51 := Ext.wr' hE51 hW52 (by omega)
        replace hE47 := Ext.wr' hE47 hW52 (by omega)
        replace hvn := hvn.wr hW52 (by omega)
        replace hvr := hvr.wr hW52 (by omega)
        replace hE41 := Ext.wr' hE41 hW52 (by omega)
        replace hE15 := Ext.wr' hE15 hW52 (by omega)
        replace hE11 := Ext.wr' hE11 hW52 (by omega)
        replace hE4 := Ext.wr' hE4 hW52 (by omega)
        replace hB4 := hB4.wr hW52 (by omega)
        replace hE0 := Ext.wr' hE0 hW52 (by omega)
        refine Seg.step rfl rfl (Yd.assign rfl) ?_
        refine Seg.nil ?_
        refine At.then_ ?_
        refine Cd.seq ?_
        refine Cd.seq ?_
        refine Cd.region ?_
        refine Seg.step rfl rfl (Yd.move rfl) ?_
        refine Seg.step rfl rfl (Yd.neq rfl rfl) ?_
        refine Seg.step rfl rfl (Yd.move rfl) ?_
        refine Seg.step rfl rfl (Yd.move rfl) ?_
        refine Seg.step rfl rfl (Yd.neq rfl rfl) ?_
        refine Seg.step rfl rfl (Yd.pickT rfl rfl) ?_
        refine Seg.nil ?_
        refine At.then_ ?_
        refine Cd.condF rfl ?_
        refine Cd.skip ?_
        refine At.then_ ?_
        refine Cd.seq ?_
        refine Cd.seq ?_
        refine Cd.region ?_
        refine Seg.step rfl rfl (Yd.fieldAddr rfl rfl) ?_
        refine Seg.step rfl rfl (Yd.load1 rfl rfl (hB52.row _ _ rfl)) ?_
        refine Seg.step rfl rfl (Yd.lss rfl rfl) ?_
        refine Seg.step rfl rfl (Yd.move rfl) ?_
        refine Seg.gsplitp rfl rfl (fun h77 => ?_) (fun h77 => ?_)
        · exfalso; omega
        refine Seg.step rfl rfl (Yd.fieldAddr rfl rfl) ?_
        refine Seg.step rfl rfl (Yd.load1 rfl rfl (hB52.row _ _ rfl)) ?_
        refine Seg.step rfl rfl (Yd.gtr rfl rfl) ?_
        refine Seg.step rfl rfl (Yd.pickF rfl rfl) ?_
        refine Seg.step rfl rfl (Yd.move rfl) ?_
        refine Seg.gsplitp rfl rfl (fun h84 => ?_) (fun h84 => ?_)
        · exfalso; omega
        refine Seg.step rfl rfl (Yd.fieldAddr rfl rfl) ?_
        refine Seg.step rfl rfl (Yd.load1 rfl rfl (hB52.row _ _ rfl)) ?_
        refine Seg.step rfl rfl (Yd.lenS rfl rfl) ?_
        refine Seg.step rfl rfl (Yd.gtr rfl rfl) ?_
        refine Seg.step rfl rfl (Yd.move rfl) ?_
        refine Seg.step rfl rfl (Yd.eql rfl rfl) ?_
        refine Seg.step rfl rfl (Yd.neqB rfl rfl rfl) ?_
        refine Seg.step rfl rfl (Yd.pickF rfl rfl) ?_
        refine Seg.step rfl rfl (Yd.move rfl) ?_
        refine Seg.gsplit rfl rfl (fun h95 => ?_) (fun h95 => ?_)
        · refine Seg.skip rfl rfl ?_
          refine Seg.skip rfl rfl ?_
          refine Seg.skip rfl rfl ?_
          refine Seg.skip rfl rfl ?_
          refine Seg.skip rfl rfl ?_
          refine Seg.skip rfl rfl ?_
          refine Seg.skip rfl rfl ?_
          refine Seg.skip rfl rfl ?_
          refine Seg.skip rfl rfl ?_
          refine Seg.skip rfl rfl ?_
          refine Seg.skip rfl rfl ?_
          refine Seg.step rfl rfl (Yd.pickT rfl rfl) ?_
          refine Seg.nil ?_
          refine At.then_ ?_
          refine Cd.condT rfl ?_
          refine Cd.seq ?_
          refine Cd.region ?_
          refine Seg.step rfl rfl (Yd.assign rfl) ?_
          refine Seg.nil ?_
          refine At.then_ ?_
          refine Cd.ret ?_
          refine At.then_ret ?_
          exact Bool.noConfusion (hne.symm.trans (by assumption))
        refine Seg.step rfl rfl (Yd.fieldAddr rfl rfl) ?_
        refine Seg.step rfl rfl (Yd.load1 rfl rfl (hB52.row _ _ rfl)) ?_
        refine Seg.step rfl rfl (Yd.eql rfl rfl) ?_
        refine Seg.step rfl rfl (Yd.move rfl) ?_
        refine Seg.gsplitp rfl rfl (fun h125 => ?_) (fun h125 => ?_)
        rotate_left 1
        · exfalso; omega
        rotate_right 1
        refine Seg.step rfl rfl (Yd.fieldAddr rfl rfl) ?_
        refine Seg.step rfl rfl (Yd.load1 rfl rfl (hB52.row _ _ rfl)) ?_
        refine Seg.step rfl rfl (Yd.fieldAddr rfl rfl) ?_
        refine Seg.step rfl rfl (Yd.load1 rfl rfl (hB4.row _ _ rfl)) ?_
        (refine Seg.call rfl rfl (own_of rfl) rfl (exact_any nm nm _ _ _ hvn.1 (h1.ext hE0) (by have := hfq.1; omega)) ?_; rintro _ w131 ⟨rfl, hE131⟩)
        replace hW52 := Wr.trans hW52 (Ext.wr hE131 _)
        replace hB52 := hB52.ext hE131
        replace hE51 := Ext.trans hE51 hE131
        replace hE47 := Ext.trans hE47 hE131
        replace hvn := hvn.ext hE131
        replace hvr := hvr.ext hE131
        replace hE41 := Ext.trans hE41 hE131
        replace hE15 := Ext.trans hE15 hE131
        replace hE11 := Ext.trans hE11 hE131
        replace hE4 := Ext.trans hE4 hE131
        replace hB4 := hB4.ext hE131
        replace hE0 := Ext.trans hE0 hE131
        refine Seg.step rfl rfl (Yd.notp rfl) ?_
        refine Seg.step rfl rfl (Yd.pickT rfl rfl) ?_
        refine Seg.step rfl rfl (Yd.pickF rfl rfl) ?_
        refine Seg.nil ?_
        refine At.then_ ?_
        refine Cd.condk rfl (fun h137 => ?_) (fun h137 => ?_)
        · refine Cd.seq ?_
          refine Cd.region ?_
          refine Seg.step rfl rfl (Yd.assign rfl) ?_
          refine Seg.nil ?_
          refine At.then_ ?_
          refine Cd.ret ?_
          refine At.then_ret ?_
          exact absurd rfl (by assumption : ¬ nm = nm)
        refine Cd.skip ?_
        refine At.then_ ?_
        refine Cd.seq ?_
        refine Cd.seq ?_
        refine Cd.region ?_
        refine Seg.step rfl rfl (Yd.assign rfl) ?_
        refine Seg.nil ?_
        refine At.then_ ?_
        refine Cd.block ?_
        refine Cd.loop (σ := Nat) (fun i => [(5, .pointer (some ⟨b51, 0, none⟩)), (7, .int .i64 i)])
          (fun i w' => i ≤ R.length ∧ Bx w' b51 [.slice an nm.length cn, .slice ar R.length cr, .int .i64 ttl, .int .i64 L] ∧ SlK w' w47.heap.size 33 (.slice ar R.length cr) R.length (recsV R) ∧ Ext w w')
          (fun i => R.length - i) 0 (.cons rfl (.cons rfl (.nil _))) ⟨Nat.zero_le _, by assumption, by assumption, hE0⟩ ?_
        rintro i w0 ⟨hi, hB, hS, hE⟩
        clear hvr hE0 hE4 hE11 hE15 hE41 hE47 hE51
        try clear hB52 hW52
        by_cases hlt : i < R.length
        · obtain ⟨⟨ar', cr', he, hl1, hr1, hz1⟩, _⟩ := id hS
          cases he
          obtain ⟨a, rfl⟩ : ∃ a, ar = some a := by
            cases ar with
            | none => have := hz1 rfl; omega
            | some a => exact ⟨a, rfl⟩
          obtain ⟨r, hri⟩ : ∃ r, R[i]? = some r := ⟨_, List.getElem?_eq_getElem hlt⟩
          have hmem := httl r (List.mem_of_getElem? hri)
          have hrow := recs_part (hr1 a rfl) hri
          refine Cd.seq ?_
          refine Cd.seq ?_
          refine Cd.region ?_
          refine Seg.step rfl rfl (Yd.move rfl) ?_
          refine Seg.step rfl rfl (Yd.fieldAddr rfl rfl) ?_
          refine Seg.step rfl rfl (Yd.load1 rfl rfl (hB.row _ _ rfl)) ?_
          refine Seg.step rfl rfl (Yd.lenS rfl rfl) ?_
          refine Seg.step rfl rfl (Yd.lss rfl rfl) ?_
          refine Seg.nil ?_
          refine At.then_ ?_
          refine Cd.condk rfl (fun h148 => ?_) (fun h148 => ?_)
          · exfalso; omega
          · exfalso; omega
        · obtain rfl : i = R.length := by omega
          refine Cd.seq ?_
          refine Cd.seq ?_
          refine Cd.region ?_
          refine Seg.step rfl rfl (Yd.move rfl) ?_
          refine Seg.step rfl rfl (Yd.fieldAddr rfl rfl) ?_
          refine Seg.step rfl rfl (Yd.load1 rfl rfl (hB.row _ _ rfl)) ?_
          refine Seg.step rfl rfl (Yd.lenS rfl rfl) ?_
          refine Seg.step rfl rfl (Yd.lss rfl rfl) ?_
          refine Seg.nil ?_
          refine At.then_ ?_
          refine Cd.condk rfl (fun h148 => ?_) (fun h148 => ?_)
          · exfalso; omega
          · refine Cd.exit ?_
            refine At.then_exit ?_
            refine At.then_exit ?_
            refine At.blk_same ?_
            refine At.then_ ?_
            refine Cd.seq ?_
            refine Cd.region ?_
            refine Seg.step rfl rfl (Yd.assign rfl) ?_
            refine Seg.nil ?_
            refine At.then_ ?_
            refine Cd.ret ?_
            exact At.ret Try.results5 (.tmp rfl .nil) ⟨rfl, hE⟩
      · (refine Seg.call rfl rfl (own_of rfl) rfl hc2 ?_; rintro _ w47 ⟨⟨an, cn, ar, cr, rfl, hvn, hvr⟩, hE47⟩)
        replace hE41 := Ext.trans hE41 hE47
        replace hE15 := Ext.trans hE15 hE47
        replace hE11 := Ext.trans hE11 hE47
        replace hE4 := Ext.trans hE4 hE47
        replace hB4 := hB4.ext hE47
        replace hE0 := Ext.trans hE0 hE47
        refine Seg.step rfl rfl (Yd.move rfl) ?_
        refine Seg.step rfl rfl (Yd.extract rfl rfl) ?_
        refine Seg.step rfl rfl (Yd.extract rfl rfl) ?_
        refine Seg.alloc rfl rfl rfl (fun w51 b51 hE51 hB51 hb51 => ?_)
        have hlt51_0 := Nat.le_trans hE47.size hb51
        have hlt51_1 := Nat.le_trans hE41.size hb51
        have hlt51_2 := Nat.le_trans hE15.size hb51
        have hlt51_3 := Nat.le_trans hE11.size hb51
        have hlt51_4 := Nat.le_trans hE4.size hb51
        have hlt51_5 := Nat.lt_of_lt_of_le hB4.lt hb51
        have hlt51_6 := Nat.le_trans hE0.size hb51
        replace hE47 := Ext.trans hE47 hE51
        replace hvn := hvn.ext hE51
        replace hvr := hvr.ext hE51
        replace hE41 := Ext.trans hE41 hE51
        replace hE15 := Ext.trans hE15 hE51
        replace hE11 := Ext.trans hE11 hE51
        replace hE4 := Ext.trans hE4 hE51
        replace hB4 := hB4.ext hE51
        replace hE0 := Ext.trans hE0 hE51
        refine Seg.storeN rfl rfl rfl rfl hB51 rfl (by first | assumption | exact List.all_eq_true.1 rfl) (fun w52 hW52 hB52 => ?_)
        clear hB51
        replace hE51 := Ext.wr' hE51 hW52 (by omega)
        replace hE47 := Ext.wr' hE47 hW52 (by omega)
        replace hvn := hvn.wr hW52 (by omega)
        replace hvr := hvr.wr hW52 (by omega)
        replace hE41 := Ext.wr' hE41 hW52 (by omega)
        replace hE15 := Ext.wr' hE15 hW52 (by omega)
        replace hE11 := Ext.wr' hE11 hW52 (by omega)
        replace hE4 := Ext.wr' hE4 hW52 (by omega)
        replace hB4 := hB4.wr hW52 (by omega)
        replace hE0 := Ext.wr' hE0 hW52 (by omega)
        refine Seg.step rfl rfl (Yd.assign rfl) ?_
        refine Seg.nil ?_
        refine At.then_ ?_
        refine Cd.seq ?_
        refine Cd.seq ?_
        refine Cd.region ?_
        refine Seg.step rfl rfl (Yd.move rfl) ?_
        refine Seg.step rfl rfl (Yd.neq rfl rfl) ?_
        refine Seg.step rfl rfl (Yd.move rfl) ?_
        refine Seg.step rfl rfl (Yd.move rfl) ?_
        refine Seg.step rfl rfl (Yd.neq rfl rfl) ?_
        refine Seg.step rfl rfl (Yd.pickT rfl rfl) ?_
        refine Seg.nil ?_
        refine At.then_ ?_
        refine Cd.condF rfl ?_
        refine Cd.skip ?_
        refine At.then_ ?_
        refine Cd.seq ?_
        refine Cd.seq ?_
        refine Cd.region ?_
        refine Seg.step rfl rfl (Yd.fieldAddr rfl rfl) ?_
        refine Seg.step rfl rfl (Yd.load1 rfl rfl (hB52.row _ _ rfl)) ?_
        refine Seg.step rfl rfl (Yd.lss rfl rfl) ?_
        refine Seg.step rfl rfl (Yd.move rfl) ?_
        refine Seg.gsplitp rfl rfl (fun h77 => ?_) (fun h77 => ?_)
        · exfalso; omega
        refine Seg.step rfl rfl (Yd.fieldAddr rfl rfl) ?_
        refine Seg.step rfl rfl (Yd.load1 rfl rfl (hB52.row _ _ rfl)) ?_
        refine Seg.step rfl rfl (Yd.gtr rfl rfl) ?_
        refine Seg.step rfl rfl (Yd.pickF rfl rfl) ?_
        refine Seg.step rfl rfl (Yd.move rfl) ?_
        refine Seg.gsplitp rfl rfl (fun h84 => ?_) (fun h84 => ?_)
        · exfalso; omega
        refine Seg.step rfl rfl (Yd.fieldAddr rfl rfl) ?_
        refine Seg.step rfl rfl (Yd.load1 rfl rfl (hB52.row _ _ rfl)) ?_
        refine Seg.step rfl rfl (Yd.lenS rfl rfl) ?_
        refine Seg.step rfl rfl (Yd.gtr rfl rfl) ?_
        refine Seg.step rfl rfl (Yd.move rfl) ?_
        refine Seg.step rfl rfl (Yd.eql rfl rfl) ?_
        refine Seg.step rfl rfl (Yd.neqB rfl rfl rfl) ?_
        refine Seg.step rfl rfl (Yd.pickF rfl rfl) ?_
        refine Seg.step rfl rfl (Yd.move rfl) ?_
        refine Seg.gsplit rfl rfl (fun h95 => ?_) (fun h95 => ?_)
        · refine Seg.skip rfl rfl ?_
          refine Seg.skip rfl rfl ?_
          refine Seg.skip rfl rfl ?_
          refine Seg.skip rfl rfl ?_
          refine Seg.skip rfl rfl ?_
          refine Seg.skip rfl rfl ?_
          refine Seg.skip rfl rfl ?_
          refine Seg.skip rfl rfl ?_
          refine Seg.skip rfl rfl ?_
          refine Seg.skip rfl rfl ?_
          refine Seg.skip rfl rfl ?_
          refine Seg.step rfl rfl (Yd.pickT rfl rfl) ?_
          refine Seg.nil ?_
          refine At.then_ ?_
          refine Cd.condT rfl ?_
          refine Cd.seq ?_
          refine Cd.region ?_
          refine Seg.step rfl rfl (Yd.assign rfl) ?_
          refine Seg.nil ?_
          refine At.then_ ?_
          refine Cd.ret ?_
          refine At.then_ret ?_
          exact Bool.noConfusion (hne.symm.trans (by assumption))
        refine Seg.step rfl rfl (Yd.fieldAddr rfl rfl) ?_
        refine Seg.step rfl rfl (Yd.load1 rfl rfl (hB52.row _ _ rfl)) ?_
        refine Seg.step rfl rfl (Yd.eql rfl rfl) ?_
        refine Seg.step rfl rfl (Yd.move rfl) ?_
        refine Seg.gsplitp rfl rfl (fun h125 => ?_) (fun h125 => ?_)
        · exfalso; omega
        refine Seg.skip rfl rfl ?_
        refine Seg.skip rfl rfl ?_
        refine Seg.skip rfl rfl ?_
        refine Seg.skip rfl rfl ?_
        refine Seg.skip rfl rfl ?_
        refine Seg.skip rfl rfl ?_
        refine Seg.step rfl rfl (Yd.pickF rfl rfl) ?_
        refine Seg.step rfl rfl (Yd.pickF rfl rfl) ?_
        refine Seg.nil ?_
        refine At.then_ ?_
        refine Cd.condF rfl ?_
        refine Cd.skip ?_
        refine At.then_ ?_
        refine Cd.seq ?_
        refine Cd.seq ?_
        refine Cd.region ?_
        refine Seg.step rfl rfl (Yd.assign rfl) ?_
        refine Seg.nil ?_
        refine At.then_ ?_
        refine Cd.block ?_
        refine Cd.loop (σ := Nat) (fun i => [(5, .pointer (some ⟨b51, 0, none⟩)), (7, .int .i64 i)])
          (fun i w' => i ≤ R.length ∧ Bx w' b51 [.slice an nm.length cn, .slice ar R.length cr, .int .i64 ttl, .int .i64 L] ∧ SlK w' w47.heap.size 33 (.slice ar R.length cr) R.length (recsV R) ∧ Ext w w')
          (fun i => R.length - i) 0 (.cons rfl (.cons rfl (.nil _))) ⟨Nat.zero_le _, by assumption, by assumption, hE0⟩ ?_
        rintro i w0 ⟨hi, hB, hS, hE⟩
        clear hvr hE0 hE4 hE11 hE15 hE41 hE47 hE51
        try clear hB52 hW52
        by_cases hlt : i < R.length
        · obtain ⟨⟨ar', cr', he, hl1, hr1, hz1⟩, _⟩ := id hS
          cases he
          obtain ⟨a, rfl⟩ : ∃ a, ar = some a := by
            cases ar with
            | none => have := hz1 rfl; omega
            | some a => exact ⟨a, rfl⟩
          obtain ⟨r, hri⟩ : ∃ r, R[i]? = some r := ⟨_, List.getElem?_eq_getElem hlt⟩
          have hmem := httl r (List.mem_of_getElem? hri)
          have hrow := recs_part (hr1 a rfl) hri
          refine Cd.seq ?_
          refine Cd.seq ?_
          refine Cd.region ?_
          refine Seg.step rfl rfl (Yd.move rfl) ?_
          refine Seg.step rfl rfl (Yd.fieldAddr rfl rfl) ?_
          refine Seg.step rfl rfl (Yd.load1 rfl rfl (hB.row _ _ rfl)) ?_
          refine Seg.step rfl rfl (Yd.lenS rfl rfl) ?_
          refine Seg.step rfl rfl (Yd.lss rfl rfl) ?_
          refine Seg.nil ?_
          refine At.then_ ?_
          refine Cd.condk rfl (fun h136 => ?_) (fun h136 => ?_)
          · exfalso; omega
          · exfalso; omega
        · obtain rfl : i = R.length := by omega
          refine Cd.seq ?_
          refine Cd.seq ?_
          refine Cd.region ?_
          refine Seg.step rfl rfl (Yd.move rfl) ?_
          refine Seg.step rfl rfl (Yd.fieldAddr rfl rfl) ?_
          refine Seg.step rfl rfl (Yd.load1 rfl rfl (hB.row _ _ rfl)) ?_
          refine Seg.step rfl rfl (Yd.lenS rfl rfl) ?_
          refine Seg.step rfl rfl (Yd.lss rfl rfl) ?_
          refine Seg.nil ?_
          refine At.then_ ?_
          refine Cd.condk rfl (fun h136 => ?_) (fun h136 => ?_)
          · exfalso; omega
          · refine Cd.exit ?_
            refine At.then_exit ?_
            refine At.then_exit ?_
            refine At.blk_same ?_
            refine At.then_ ?_
            refine Cd.seq ?_
            refine Cd.region ?_
            refine Seg.step rfl rfl (Yd.assign rfl) ?_
            refine Seg.nil ?_
            refine At.then_ ?_
            refine Cd.ret ?_
            exact At.ret Try.results5 (.tmp rfl .nil) ⟨rfl, hE⟩
end Go.Proofs.Ytidhelgoopdloaa
