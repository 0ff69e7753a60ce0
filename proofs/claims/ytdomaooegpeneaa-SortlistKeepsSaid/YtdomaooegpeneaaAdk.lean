/- The first law of sortlist. -/
import Derived.Test.YtdomaooegpeneaaAdj
namespace Go.Proofs.Ytdomaooegpeneaa
open Go Go.RowKit
theorem order_fin (ps : List El) (ads : List Adr) (v u : Value) (w : World) (h : PfxAt w v ps) (hp : ∀ p ∈ ps, WfA p.1) (hl : ps.length ≤ 1000) (h' : AdrsAt w u ads) (ha : ∀ a ∈ ads, WfA a) (hl' : ads.length ≤ 1000) :
    Ret Try.prog 9 #[v, u] w fun r w' => AdrsAt w' r (ordOf ps ads (ps.length + 1)) ∧ Ext w w' :=
  (order9 ps ads v u w h hp hl h' ha hl').mono fun r w' ⟨⟨Y, h1, h2, h3⟩, h4⟩ => ⟨by rw [← ord_of h2 h3]; exact h1, h4⟩
theorem ord_mem {ps : List El} {ads : List Adr} {n : Nat} {a : Adr} (h : a ∈ ordOf ps ads n) : a ∈ ads := by
  unfold ordOf at h
  obtain ⟨k, _, hk⟩ := List.mem_flatMap.1 h
  exact (List.mem_filter.1 hk).1
theorem same_self (os : List Adr) (v u : Value) (w : World) (h : AdrsAt w v os) (h' : AdrsAt w u os) (hw : ∀ a ∈ os, WfA a) (hl : os.length ≤ 10000) : Ret Try.prog 8 #[v, u] w fun r w' => r = .bool true ∧ Ext w w' :=
  (same8 os os v u w h h' hw hw hl hl).mono fun r w' ⟨h1, h2⟩ => ⟨by rw [h1, decide_eq_true rfl], h2⟩
theorem law3 (ps : List El) (ads : List Adr) (a : Adr) (v u : Value) (w : World) (h : PfxAt w v ps) (h' : AdrsAt w u ads) (hp : ∀ p ∈ ps, WfA p.1) (hads : ∀ a ∈ ads, WfA a) (ha : WfA a) :
    Ret Try.prog 3 #[v, u, .agg a.cells.toArray] w fun r w' => r = .bool true ∧ Ext w w' := by
  have hE0 := Ext.refl w
  have hps := h
  have had := h'
  obtain ⟨ao, c, rfl, -, -, -⟩ := h
  obtain ⟨ao', c', rfl, -, -, -⟩ := h'
  refine Ret.body Try.func3 rfl Try.ntmps3 rfl ?_
  by_cases h40 : ps.length ≤ 40
  · by_cases h60 : ads.length ≤ 60
    · have hlo : (ordOf ps ads (ps.length + 1)).length ≤ 10000 := by have h1 := ord_len ps ads (ps.length + 1); have h2 : (ps.length + 1) * ads.length ≤ 41 * 60 := Nat.mul_le_mul (by omega) h60; omega
      have hwo : ∀ a ∈ ordOf ps ads (ps.length + 1), WfA a := fun a h => hads a (ord_mem h)
      refine Cd.seq ?_
      refine Cd.region ?_
      refine Seg.box rfl rfl rfl (fun w63 b63 hE63 hB63 hb63 => ?_)
      have hlt63_0 := Nat.le_trans hE0.size hb63
      replace hE0 := Ext.trans hE0 hE63
      replace hps := hps.ext hE63
      replace had := had.ext hE63
      refine Seg.step rfl rfl (Yd.assign rfl) ?_
      refine Seg.nil ?_
      refine At.then_ ?_
      refine Cd.seq ?_
      refine Cd.seq ?_
      refine Cd.region ?_
      refine Seg.step rfl rfl (Yd.move rfl) ?_
      refine Seg.step rfl rfl (Yd.lenS rfl rfl) ?_
      refine Seg.step rfl rfl (Yd.gtr rfl rfl) ?_
      refine Seg.step rfl rfl (Yd.move rfl) ?_
      refine Seg.gsplitp rfl rfl (fun h74 => ?_) (fun h74 => ?_)
      · exfalso; omega
      · refine Seg.step rfl rfl (Yd.move rfl) ?_
        refine Seg.step rfl rfl (Yd.lenS rfl rfl) ?_
        refine Seg.step rfl rfl (Yd.gtr rfl rfl) ?_
        refine Seg.step rfl rfl (Yd.pickF rfl rfl) ?_
        refine Seg.nil ?_
        refine At.then_ ?_
        refine Cd.condk rfl (fun h82 => ?_) (fun h82 => ?_)
        · exfalso; omega
        · refine Cd.skip ?_
          refine At.then_ ?_
          refine Cd.seq ?_
          refine Cd.anyE (by kernel_rfl) (fun w87 hE87 => ?_)
          replace hE63 := Ext.trans hE63 hE87
          replace hB63 := hB63.ext hE87
          replace hE0 := Ext.trans hE0 hE87
          replace hps := hps.ext hE87
          replace had := had.ext hE87
          refine SegA.oneSeg (o := ⟨_, _, _, _, _, _⟩) 0 rfl (by kernel_rfl) ?_
          (refine Seg.call rfl rfl (own_of rfl) rfl (works5 _) ?_; rintro _ w89 ⟨rfl, hE89⟩)
          replace hE87 := Ext.trans hE87 hE89
          replace hE63 := Ext.trans hE63 hE89
          replace hB63 := hB63.ext hE89
          replace hE0 := Ext.trans hE0 hE89
          replace hps := hps.ext hE89
          replace had := had.ext hE89
          refine SegA.back ?_
          refine SegA.pure 1 rfl (by kernel_rfl) (by kernel_rfl) (by kernel_rfl) rfl rfl (fun _ => Yd.move rfl) ?_
          refine SegA.pure 2 rfl (by kernel_rfl) (by kernel_rfl) (by kernel_rfl) rfl rfl (fun _ => Yd.move rfl) ?_
          refine SegA.pure 5 rfl (by kernel_rfl) (by kernel_rfl) (by kernel_rfl) rfl rfl (fun _ => Yd.move rfl) ?_
          refine SegA.held 20 ?_
          refine SegG.take 3 rfl (by kernel_rfl) (by kernel_rfl) (by kernel_rfl) (by kernel_rfl) (by kernel_rfl) rfl rfl (fun w' hw' => Yd.loadN rfl rfl rfl (hB63.ext hw').row) ?_
          refine SegG.take 6 rfl (by kernel_rfl) (by kernel_rfl) (by kernel_rfl) (by kernel_rfl) (by kernel_rfl) rfl rfl (fun w' hw' => Yd.loadN rfl rfl rfl (hB63.ext hw').row) ?_
          refine SegG.oneSeg (o := ⟨_, _, _, _, _, _⟩) 4 rfl (by kernel_rfl) ?_
          (refine Seg.call rfl rfl (own_of rfl) rfl (place6 ps a _ _ hps hp ha (by omega)) ?_; rintro _ w98 ⟨rfl, hE98⟩)
          replace hE89 := Ext.trans hE89 hE98
          replace hE87 := Ext.trans hE87 hE98
          replace hE63 := Ext.trans hE63 hE98
          replace hB63 := hB63.ext hE98
          replace hE0 := Ext.trans hE0 hE98
          replace hps := hps.ext hE98
          replace had := had.ext hE98
          refine SegG.back rfl (by first | assumption | exact Ext.refl _) ?_
          refine SegG.oneSeg (o := ⟨_, _, _, _, _, _⟩) 7 rfl (by kernel_rfl) ?_
          (refine Seg.call rfl rfl (own_of rfl) rfl (place7 ps a _ _ hps hp ha (by omega)) ?_; rintro _ w101 ⟨rfl, hE101⟩)
          replace hE98 := Ext.trans hE98 hE101
          replace hE89 := Ext.trans hE89 hE101
          replace hE87 := Ext.trans hE87 hE101
          replace hE63 := Ext.trans hE63 hE101
          replace hB63 := hB63.ext hE101
          replace hE0 := Ext.trans hE0 hE101
          replace hps := hps.ext hE101
          replace had := had.ext hE101
          refine SegG.back rfl (by first | assumption | exact Ext.refl _) ?_
          refine SegG.take 8 rfl (by kernel_rfl) (by kernel_rfl) (by kernel_rfl) (by kernel_rfl) (by kernel_rfl) rfl rfl (fun w' hw' => Yd.eql rfl rfl) ?_
          refine SegG.take 9 rfl (by kernel_rfl) (by kernel_rfl) (by kernel_rfl) (by kernel_rfl) (by kernel_rfl) rfl rfl (fun w' hw' => Yd.pickT rfl rfl) ?_
          refine SegG.take 10 rfl (by kernel_rfl) (by kernel_rfl) (by kernel_rfl) (by kernel_rfl) (by kernel_rfl) rfl rfl (fun w' hw' => Yd.move rfl) ?_
          refine SegG.gsplitp 11 rfl rfl rfl (fun h106 => ?_) (fun h106 => ?_)
          · refine SegG.take 11 rfl (by kernel_rfl) (by kernel_rfl) (by kernel_rfl) (by kernel_rfl) (by kernel_rfl) rfl rfl (fun w' hw' => Yd.move rfl) ?_
            refine SegG.take 12 rfl (by kernel_rfl) (by kernel_rfl) (by kernel_rfl) (by kernel_rfl) (by kernel_rfl) rfl rfl (fun w' hw' => Yd.move rfl) ?_
            refine SegG.take 14 rfl (by kernel_rfl) (by kernel_rfl) (by kernel_rfl) (by kernel_rfl) (by kernel_rfl) rfl rfl (fun w' hw' => Yd.move rfl) ?_
            refine SegG.take 15 rfl (by kernel_rfl) (by kernel_rfl) (by kernel_rfl) (by kernel_rfl) (by kernel_rfl) rfl rfl (fun w' hw' => Yd.move rfl) ?_
            refine SegG.oneSeg (o := ⟨_, _, _, _, _, _⟩) 13 rfl (by kernel_rfl) ?_
            (refine Seg.call rfl rfl (own_of rfl) rfl (order_fin ps ads _ _ _ hps hp (by omega) had hads (by omega)) ?_; rintro _ w113 ⟨hO1, hE113⟩)
            replace hE101 := Ext.trans hE101 hE113
            replace hE98 := Ext.trans hE98 hE113
            replace hE89 := Ext.trans hE89 hE113
            replace hE87 := Ext.trans hE87 hE113
            replace hE63 := Ext.trans hE63 hE113
            replace hB63 := hB63.ext hE113
            replace hE0 := Ext.trans hE0 hE113
            replace hps := hps.ext hE113
            replace had := had.ext hE113
            refine SegG.back rfl (by first | assumption | exact Ext.refl _) ?_
            refine SegG.oneSeg (o := ⟨_, _, _, _, _, _⟩) 16 rfl (by kernel_rfl) ?_
            (refine Seg.call rfl rfl (own_of rfl) rfl (ref10 ps ads _ _ _ hps hp (by omega) had hads (by omega)) ?_; rintro _ w116 ⟨hO2, hE116⟩; try replace hO1 := hO1.ext hE116)
            replace hE113 := Ext.trans hE113 hE116
            replace hE101 := Ext.trans hE101 hE116
            replace hE98 := Ext.trans hE98 hE116
            replace hE89 := Ext.trans hE89 hE116
            replace hE87 := Ext.trans hE87 hE116
            replace hE63 := Ext.trans hE63 hE116
            replace hB63 := hB63.ext hE116
            replace hE0 := Ext.trans hE0 hE116
            replace hps := hps.ext hE116
            replace had := had.ext hE116
            refine SegG.back rfl (by first | assumption | exact Ext.refl _) ?_
            refine SegG.oneSeg (o := ⟨_, _, _, _, _, _⟩) 17 rfl (by kernel_rfl) ?_
            (refine Seg.call rfl rfl (own_of rfl) rfl (same_self _ _ _ _ hO1 hO2 hwo hlo) ?_; rintro _ w119 ⟨rfl, hE119⟩)
            replace hO2 := hO2.ext hE119
            replace hE116 := Ext.trans hE116 hE119
            replace hO1 := hO1.ext hE119
            replace hE113 := Ext.trans hE113 hE119
            replace hE101 := Ext.trans hE101 hE119
            replace hE98 := Ext.trans hE98 hE119
            replace hE89 := Ext.trans hE89 hE119
            replace hE87 := Ext.trans hE87 hE119
            replace hE63 := Ext.trans hE63 hE119
            replace hB63 := hB63.ext hE119
            replace hE0 := Ext.trans hE0 hE119
            replace hps := hps.ext hE119
            replace had := had.ext hE119
            refine SegG.back rfl (by first | assumption | exact Ext.refl _) ?_
            refine SegG.take 18 rfl (by kernel_rfl) (by kernel_rfl) (by kernel_rfl) (by kernel_rfl) (by kernel_rfl) rfl rfl (fun w' hw' => Yd.pickT rfl rfl) ?_
            refine SegG.take 19 rfl (by kernel_rfl) (by kernel_rfl) (by kernel_rfl) (by kernel_rfl) (by kernel_rfl) rfl rfl (fun w' hw' => Yd.assign rfl) ?_
            refine SegG.done (by kernel_rfl) ?_
            refine At.then_ ?_
            refine Cd.ret ?_
            exact At.ret Try.results3 (.tmp rfl .nil) ⟨rfl, by assumption⟩
          · exfalso; omega
    · refine Cd.seq ?_
      refine Cd.region ?_
      refine Seg.box rfl rfl rfl (fun w63 b63 hE63 hB63 hb63 => ?_)
      have hlt63_0 := Nat.le_trans hE0.size hb63
      replace hE0 := Ext.trans hE0 hE63
      replace hps := hps.ext hE63
      replace had := had.ext hE63
      refine Seg.step rfl rfl (Yd.assign rfl) ?_
      refine Seg.nil ?_
      refine At.then_ ?_
      refine Cd.seq ?_
      refine Cd.seq ?_
      refine Cd.region ?_
      refine Seg.step rfl rfl (Yd.move rfl) ?_
      refine Seg.step rfl rfl (Yd.lenS rfl rfl) ?_
      refine Seg.step rfl rfl (Yd.gtr rfl rfl) ?_
      refine Seg.step rfl rfl (Yd.move rfl) ?_
      refine Seg.gsplitp rfl rfl (fun h74 => ?_) (fun h74 => ?_)
      · exfalso; omega
      · refine Seg.step rfl rfl (Yd.move rfl) ?_
        refine Seg.step rfl rfl (Yd.lenS rfl rfl) ?_
        refine Seg.step rfl rfl (Yd.gtr rfl rfl) ?_
        refine Seg.step rfl rfl (Yd.pickF rfl rfl) ?_
        refine Seg.nil ?_
        refine At.then_ ?_
        refine Cd.condk rfl (fun h82 => ?_) (fun h82 => ?_)
        · refine Cd.seq ?_
          refine Cd.region ?_
          (refine Seg.call rfl rfl (own_of rfl) rfl (works5 _) ?_; rintro _ w86 ⟨rfl, hE86⟩)
          replace hE63 := Ext.trans hE63 hE86
          replace hB63 := hB63.ext hE86
          replace hE0 := Ext.trans hE0 hE86
          replace hps := hps.ext hE86
          replace had := had.ext hE86
          refine Seg.step rfl rfl (Yd.assign rfl) ?_
          refine Seg.nil ?_
          refine At.then_ ?_
          refine Cd.ret ?_
          refine At.then_ret ?_
          exact At.ret Try.results3 (.tmp rfl .nil) ⟨rfl, by assumption⟩
        · exfalso; omega
  · refine Cd.seq ?_
    refine Cd.region ?_
    refine Seg.box rfl rfl rfl (fun w43 b43 hE43 hB43 hb43 => ?_)
    have hlt43_0 := Nat.le_trans hE0.size hb43
    replace hE0 := Ext.trans hE0 hE43
    replace hps := hps.ext hE43
    replace had := had.ext hE43
    refine Seg.step rfl rfl (Yd.assign rfl) ?_
    refine Seg.nil ?_
    refine At.then_ ?_
    refine Cd.seq ?_
    refine Cd.seq ?_
    refine Cd.region ?_
    refine Seg.step rfl rfl (Yd.move rfl) ?_
    refine Seg.step rfl rfl (Yd.lenS rfl rfl) ?_
    refine Seg.step rfl rfl (Yd.gtr rfl rfl) ?_
    refine Seg.step rfl rfl (Yd.move rfl) ?_
    refine Seg.gsplitp rfl rfl (fun h54 => ?_) (fun h54 => ?_)
    · refine Seg.skip rfl rfl ?_
      refine Seg.skip rfl rfl ?_
      refine Seg.skip rfl rfl ?_
      refine Seg.step rfl rfl (Yd.pickT rfl rfl) ?_
      refine Seg.nil ?_
      refine At.then_ ?_
      refine Cd.condT rfl ?_
      refine Cd.seq ?_
      refine Cd.region ?_
      (refine Seg.call rfl rfl (own_of rfl) rfl (works5 _) ?_; rintro _ w65 ⟨rfl, hE65⟩)
      replace hE43 := Ext.trans hE43 hE65
      replace hB43 := hB43.ext hE65
      replace hE0 := Ext.trans hE0 hE65
      replace hps := hps.ext hE65
      replace had := had.ext hE65
      refine Seg.step rfl rfl (Yd.assign rfl) ?_
      refine Seg.nil ?_
      refine At.then_ ?_
      refine Cd.ret ?_
      refine At.then_ret ?_
      exact At.ret Try.results3 (.tmp rfl .nil) ⟨rfl, by assumption⟩
    · exfalso; omega
end Go.Proofs.Ytdomaooegpeneaa
