/- Messages compared: wayfinderref14.SameQuestion, Same. -/
import Derived.Test.YtahpiaaffeiadaaGreatZmc
namespace Go.Proofs.YtahpiaaffeiadaaGreat
open Go Go.RowKit
def Qm.key (q : Qm) : List (List UInt8) × Int × Int := (q.n, q.kind, q.cls)
def Hd.lits (h : Hd) : List Lit := [.int .i64 h.id, .bool h.qr, .int .i64 h.op, .bool h.aa, .bool h.tc, .bool h.rd, .bool h.ra, .bool h.ad, .bool h.cd, .int .i64 h.rc]
def WfH (h : Hd) : Prop := W64 h.id ∧ W64 h.op ∧ W64 h.rc
theorem hd_lits (h : Hd) (hw : WfH h) : Tryz.prog.keyLits 2 26 h.cells = some h.lits := by
  obtain ⟨h1, h2, h3⟩ := hw
  unfold W64 at h1 h2 h3
  have e23 := cellsOf_run Tryz.sizeOf26
  have e3 := cellsOf_run Tryz.sizeOf3
  have e4 := cellsOf_run Tryz.sizeOf4
  simp [Program.keyLits, Tryz.underlying26, Tryz.underlying3, Tryz.underlying4, e23, e3, e4, Hd.cells, Hd.lits, h1, h2, h3]
theorem w64_of {i : Int} (h0 : 0 ≤ i) (h1 : i ≤ 65535) : W64 i := by
  simp only [W64, Lit.wf, IntKind.min, IntKind.max, IntKind.signed, IntKind.bits]
  simp
  omega
theorem hd_wf {h : Hd} (hok : HdOk h) : WfH h := by
  obtain ⟨h1, h2, h3⟩ := hok
  exact ⟨w64_of h1.1 h1.2, w64_of h2.1 (by omega), w64_of h3.1 (by omega)⟩
theorem key_fit {r s : Rec} (h : r.key = s.key) (hf : FitR s) : FitR r := by
  simp only [Rec.key, Prod.mk.injEq] at h
  obtain ⟨⟨h1, h2, h3⟩, _, h5⟩ := h
  obtain ⟨f1, f2, f3, f4⟩ := hf
  exact ⟨by rw [h1]; exact f1, by rw [h2]; exact f2, by rw [h3]; exact f3, by rw [h5]; exact f4⟩
theorem key_wf {r s : Rec} (h : r.key = s.key) (hw : WfR s) : WfR r := by
  simp only [Rec.key, Prod.mk.injEq, Rec.adr] at h
  obtain ⟨_, ⟨_, ⟨h1, h2, h3⟩, h4⟩, _⟩ := h
  obtain ⟨w1, w2, w3, w4⟩ := hw
  exact ⟨by rw [h1]; exact w1, by rw [h2]; exact w2, by rw [h3]; exact w3, by rw [h4]; exact w4⟩
theorem keys_fit {rs ss : List Rec} (h : keys rs = keys ss) (hf : ∀ s ∈ ss, FitR s ∧ WfR s) : ∀ r ∈ rs, FitR r ∧ WfR r := fun r hr => by
  have hm : r.key ∈ keys ss := by rw [← h]; exact List.mem_map_of_mem hr
  obtain ⟨s, hs, he⟩ := List.mem_map.1 hm
  exact ⟨key_fit he.symm (hf s hs).1, key_wf he.symm (hf s hs).2⟩
theorem sameQ_any (n : List (List UInt8)) (u v : Value) (k c : Int) (w : World) (hp : NameAt w u n) (hq : NameAt w v n) (hx : n.length ≤ 9223372036854775807) :
    Ret Tryz.prog 34 #[.agg #[u, .int .i64 k, .int .i64 c], .agg #[v, .int .i64 k, .int .i64 c]] w fun x w' => x = .bool true ∧ Ext w w' := by
  have hE0 := Ext.refl w
  refine Ret.body Tryz.func34 rfl Tryz.ntmps34 rfl ?_
  have hd : decide (n = n) = true := decide_eq_true rfl
  refine Cd.seq (Cd.region (Seg.box rfl rfl rfl (fun w3 b3 hE3 hB3 hb3 => ?_)))
  have hlt3_0 := Nat.le_trans hE0.size hb3
  replace hE0 := Ext.trans hE0 hE3
  refine Seg.box rfl rfl rfl (fun w4 b4 hE4 hB4 hb4 => ?_)
  have hlt4_0 := Nat.le_trans hE3.size hb4
  have hlt4_1 := Nat.lt_of_lt_of_le hB3.lt hb4
  have hlt4_2 := Nat.le_trans hE0.size hb4
  replace hE3 := Ext.trans hE3 hE4
  replace hB3 := hB3.ext hE4
  replace hE0 := Ext.trans hE0 hE4
  refine Seg.step rfl rfl (Yd.assign rfl) (Seg.nil (At.then_ (Cd.seq (Cd.region (Seg.step rfl rfl (Yd.fieldAddr rfl rfl) (Seg.step rfl rfl (Yd.load1 rfl rfl (hB3.row _ _ rfl)) (Seg.step rfl rfl (Yd.fieldAddr rfl rfl) ?_)))))))
  refine Seg.step rfl rfl (Yd.load1 rfl rfl (hB4.row _ _ rfl)) ?_
  (refine Seg.call rfl rfl (own_of rfl) rfl (exact_any n n _ _ _ (Sl.ext hp hE0) (Sl.ext hq hE0) hx) ?_; rw [hd]; rintro _ w14 ⟨rfl, hE14⟩)
  replace hE4 := Ext.trans hE4 hE14
  replace hB4 := hB4.ext hE14
  replace hE3 := Ext.trans hE3 hE14
  replace hB3 := hB3.ext hE14
  replace hE0 := Ext.trans hE0 hE14
  refine Seg.step rfl rfl (Yd.move rfl) (Seg.step rfl rfl (Yd.fieldAddr rfl rfl) (Seg.step rfl rfl (Yd.load1 rfl rfl (hB3.row _ _ rfl)) (Seg.step rfl rfl (Yd.fieldAddr rfl rfl) (Seg.step rfl rfl (Yd.load1 rfl rfl (hB4.row _ _ rfl)) (Seg.step rfl rfl (Yd.eql rfl rfl) (Seg.step rfl rfl (Yd.pickT rfl rfl) (Seg.step rfl rfl (Yd.move rfl) ?_)))))))
  refine Seg.gsplitp rfl rfl (fun h23 => ?_) (fun h23 => ?_)
  · refine Seg.step rfl rfl (Yd.fieldAddr rfl rfl) (Seg.step rfl rfl (Yd.load1 rfl rfl (hB3.row _ _ rfl)) (Seg.step rfl rfl (Yd.fieldAddr rfl rfl) (Seg.step rfl rfl (Yd.load1 rfl rfl (hB4.row _ _ rfl)) (Seg.step rfl rfl (Yd.eql rfl rfl) (Seg.step rfl rfl (Yd.pickT rfl rfl) (Seg.step rfl rfl (Yd.assign rfl) (Seg.nil ?_)))))))
    refine At.then_ (Cd.ret ?_)
    exact At.ret Tryz.results34 (.tmp rfl .nil) ⟨congrArg Value.bool (decide_eq_true rfl), hE0⟩
  · exfalso; omega
set_option maxHeartbeats 800000 in
theorem same14_any (M N : Mg) (w : World) (hM : MgAt w M) (hN : MgAt w N) (hh : M.h = N.h) (hwh : WfH N.h) (hq : M.qs.map Qm.key = N.qs.map Qm.key) (ha : keys M.an = keys N.an) (hu : keys M.au = keys N.au) (hx : keys M.ex = keys N.ex) (hf : MgFit N) :
    Ret Tryz.prog 11 #[.agg M.cells.toArray, .agg N.cells.toArray] w fun v w' => v = .bool true ∧ Ext w w' := by
  have hE0 := Ext.refl w
  obtain ⟨h, vq, qs, va, an, vu, au, ve, ex⟩ := M
  obtain ⟨g, vp, ps, vb, bn, vc, cu, vd, dx⟩ := N
  simp only at hh hq ha hu hx hwh
  subst hh
  have hM1 := hM
  have hN1 := hN
  obtain ⟨⟨⟨ao, c, e0, hl0, hr0, hz0⟩, hnm⟩, hl⟩ := hM1
  obtain ⟨⟨⟨bo, d, f0, gl0, gr0, gz0⟩, gnm⟩, gl⟩ := hN1
  simp only at e0 hl0 hz0 hnm f0 gl0 gz0 gnm
  subst e0
  subst f0
  have kA : Keep (RecsAt w va an ∧ RecsAt w vb bn) := ⟨hl (va, an) List.mem_cons_self, gl (vb, bn) List.mem_cons_self⟩
  have kU : Keep (RecsAt w vu au ∧ RecsAt w vc cu) := ⟨hl (vu, au) (List.mem_cons_of_mem _ List.mem_cons_self), gl (vc, cu) (List.mem_cons_of_mem _ List.mem_cons_self)⟩
  have kX : Keep (RecsAt w ve ex ∧ RecsAt w vd dx) := ⟨hl (ve, ex) (List.mem_cons_of_mem _ (List.mem_cons_of_mem _ List.mem_cons_self)), gl (vd, dx) (List.mem_cons_of_mem _ (List.mem_cons_of_mem _ List.mem_cons_self))⟩
  clear hl gl hM hN
  have hlen : qs.length = ps.length := by simpa using congrArg List.length hq
  have hql : ps.length ≤ 20 := hf.1
  have fA := hf.2.2 (vb, bn) List.mem_cons_self
  have fU := hf.2.2 (vc, cu) (List.mem_cons_of_mem _ List.mem_cons_self)
  have fX := hf.2.2 (vd, dx) (List.mem_cons_of_mem _ (List.mem_cons_of_mem _ List.mem_cons_self))
  have mA := keys_fit ha fA.2
  have mU := keys_fit hu fU.2
  have mX := keys_fit hx fX.2
  have lA := keys_len ha
  have lU := keys_len hu
  have lX := keys_len hx
  have gA : an.length ≤ 1000 := by have := fA.1; simp only at this; omega
  have gU : au.length ≤ 1000 := by have := fU.1; simp only at this; omega
  have gX : ex.length ≤ 1000 := by have := fX.1; simp only at this; omega
  have hc : h.cells = h.cells := rfl
  refine Ret.body Tryz.func11 rfl Tryz.ntmps11 rfl (Cd.seq (Cd.region (Seg.box rfl rfl rfl (fun w3 b3 hE3 hB3 hb3 => ?_))))
  have hlt3_0 := Nat.le_trans hE0.size hb3
  replace hE0 := Ext.trans hE0 hE3
  refine Seg.box rfl rfl rfl (fun w4 b4 hE4 hB4 hb4 => ?_)
  have hlt4_0 := Nat.le_trans hE3.size hb4
  have hlt4_1 := Nat.lt_of_lt_of_le hB3.lt hb4
  have hlt4_2 := Nat.le_trans hE0.size hb4
  replace hE3 := Ext.trans hE3 hE4
  replace hB3 := hB3.ext hE4
  replace hE0 := Ext.trans hE0 hE4
  refine Seg.step rfl rfl (Yd.assign rfl) (Seg.nil (At.then_ (Cd.seq (Cd.seq (Cd.region (Seg.step rfl rfl (Yd.fieldAddr rfl rfl) (Seg.step rfl rfl (Yd.loadN rfl rfl rfl (show Row _ (Addr.add _ 0) h.cells from hB3.row.part 0 10)) ?_)))))))
  refine Seg.step rfl rfl (Yd.fieldAddr rfl rfl) (Seg.step rfl rfl (Yd.loadN rfl rfl rfl (show Row _ (Addr.add _ 0) h.cells from hB4.row.part 0 10)) (Seg.step rfl rfl (Yd.neqD rfl rfl (by kernel_rfl) (by kernel_rfl) (by kernel_rfl) (by kernel_rfl) (hd_lits h hwh) (hd_lits h hwh) (p := True) (by simp)) (Seg.step rfl rfl (Yd.move rfl) (Seg.step rfl rfl (Yd.fieldAddr rfl rfl) (Seg.step rfl rfl (Yd.load1 rfl rfl (hB3.row _ _ rfl)) (Seg.step rfl rfl (Yd.lenS rfl rfl) (Seg.step rfl rfl (Yd.fieldAddr rfl rfl) ?_)))))))
  refine Seg.step rfl rfl (Yd.load1 rfl rfl (hB4.row _ _ rfl)) (Seg.step rfl rfl (Yd.lenS rfl rfl) (Seg.step rfl rfl (Yd.neq rfl rfl) (Seg.step rfl rfl (Yd.pickF rfl rfl) (Seg.nil (At.then_ ?_)))))
  refine Cd.condk rfl (fun h27 => ?_) (fun h27 => ?_)
  · exfalso; omega
  refine Cd.skip (At.then_ (Cd.seq (Cd.seq (Cd.region (Seg.step rfl rfl (Yd.assign rfl) (Seg.nil (At.then_ ?_)))))))
  refine Cd.block (Cd.loop (σ := Nat) (fun t => [(2, .pointer (some ⟨b3, 0, none⟩)), (3, .pointer (some ⟨b4, 0, none⟩)), (5, .int .i64 (t : Int))]) (fun t w' => t ≤ qs.length ∧ Bx w' b3 ((⟨h, .slice ao qs.length c, qs, va, an, vu, au, ve, ex⟩ : Mg)).cells ∧ Bx w' b4 ((⟨h, .slice bo ps.length d, ps, vb, bn, vc, cu, vd, dx⟩ : Mg)).cells ∧ Ext w w') (fun t => qs.length - t) 0 (.cons rfl (.cons rfl (.cons rfl (.nil _)))) ⟨Nat.zero_le _, by assumption, by assumption, by assumption⟩ ?_)
  clear hB3 hB4 hE0
  rintro i w1 ⟨hi, hB3, hB4, hE1⟩
  by_cases hlt : i < qs.length
  · have hlt2 : i < ps.length := by omega
    obtain ⟨a, rfl⟩ : ∃ a, ao = some a := by
      cases ao with
      | none => have := hz0 rfl; omega
      | some a => exact ⟨a, rfl⟩
    obtain ⟨a', rfl⟩ : ∃ a, bo = some a := by
      cases bo with
      | none => have := gz0 rfl; omega
      | some a => exact ⟨a, rfl⟩
    have hr0 := hr0 a rfl
    have gr0 := gr0 a' rfl
    obtain ⟨q, hqj⟩ : ∃ q, qs[i]? = some q := ⟨_, List.getElem?_eq_getElem hlt⟩
    obtain ⟨y, hyj⟩ : ∃ y, ps[i]? = some y := ⟨_, List.getElem?_eq_getElem hlt2⟩
    have hNq := hnm q (List.mem_of_getElem? hqj)
    have hNy := gnm y (List.mem_of_getElem? hyj)
    have hfy := hf.2.1 y (List.mem_of_getElem? hyj)
    have hky : q.key = y.key := by
      have e := congrArg (fun l => l[i]?) hq
      simp only [List.getElem?_map, hqj, hyj, Option.map_some, Option.some.injEq] at e
      exact e
    obtain ⟨qn, qv, qk, qc⟩ := q
    obtain ⟨yn, yv, yk, yc⟩ := y
    simp only [Qm.key, Prod.mk.injEq] at hky
    obtain ⟨rfl, rfl, rfl⟩ := hky
    simp only at hNq hNy hfy
    obtain ⟨qa, qo, rfl, _⟩ := id hNq
    obtain ⟨ya, yo, rfl, _⟩ := id hNy
    have hrow : Row w (a.add (i * 3)) [.slice qa qn.length qo, .int .i64 qk, .int .i64 qc] := by
      have h1 := hr0.part (i * 3) 3
      rw [qm_row hqj] at h1; exact h1
    have hrow2 : Row w (a'.add (i * 3)) [.slice ya qn.length yo, .int .i64 qk, .int .i64 qc] := by
      have h1 := gr0.part (i * 3) 3
      rw [qm_row hyj] at h1; exact h1
    have hfl : qn.length ≤ 9223372036854775807 := by have := hfy.1; omega
    refine Cd.seq (Cd.seq (Cd.region (Seg.step rfl rfl (Yd.move rfl) (Seg.step rfl rfl (Yd.fieldAddr rfl rfl) (Seg.step rfl rfl (Yd.load1 rfl rfl (hB3.row _ _ rfl)) (Seg.step rfl rfl (Yd.lenS rfl rfl) (Seg.step rfl rfl (Yd.lss rfl rfl) ?_)))))))
    refine Seg.nil (At.then_ ?_)
    refine Cd.condk rfl (fun h38 => ?_) (fun h38 => ?_)
    · refine Cd.skip (At.then_ (Cd.seq (Cd.block (Cd.seq (Cd.quiet (by kernel_rfl) (by kernel_rfl) (SegQ.step rfl rfl (fun w' hw' => Yd.fieldAddr rfl rfl) (SegQ.step rfl rfl (fun w' hw' => Yd.load1 rfl rfl ((hB3.ext hw').row _ _ rfl)) ?_)))))))
      refine SegQ.step rfl rfl (fun w' hw' => Yd.move rfl) (SegQ.step rfl rfl (fun w' hw' => Yd.indexAddr rfl rfl rfl (NatOf.cast _) (by omega)) (SegQ.step rfl rfl (fun w' hw' => Yd.loadN rfl rfl rfl (hrow.ext (hE1.trans hw'))) (SegQ.step rfl rfl (fun w' hw' => Yd.fieldAddr rfl rfl) (SegQ.step rfl rfl (fun w' hw' => Yd.load1 rfl rfl ((hB4.ext hw').row _ _ rfl)) (SegQ.step rfl rfl (fun w' hw' => Yd.move rfl) (SegQ.step rfl rfl (fun w' hw' => Yd.indexAddr rfl rfl rfl (NatOf.cast _) (by omega)) (SegQ.step rfl rfl (fun w' hw' => Yd.loadN rfl rfl rfl (hrow2.ext (hE1.trans hw'))) ?_)))))))
      refine SegQ.call rfl rfl (own_of rfl) rfl (v := .bool true) (fun w9 hE9 => (sameQ_any qn _ _ qk qc w9 (Sl.ext hNq (hE1.trans hE9)) (Sl.ext hNy (hE1.trans hE9)) hfl).mono fun v w2 ⟨hv, hE⟩ => ⟨hv, hE9.trans hE⟩) (SegQ.step rfl rfl (fun w' hw' => Yd.not rfl) (SegQ.nil fun w58 hE58 => ?_))
      replace hE1 := Ext.trans hE1 hE58
      replace hB3 := hB3.ext hE58
      replace hB4 := hB4.ext hE58
      refine At.then_ (Cd.condF rfl (Cd.skip (At.blk (At.then_ (Cd.region (Seg.step rfl rfl (Yd.move rfl) (Seg.step rfl rfl (Yd.addI rfl rfl (by omega)) ?_)))))))
      refine Seg.step rfl rfl (Yd.assign rfl) (Seg.nil ?_)
      exact At.round (i + 1) (.cons rfl (.cons rfl (.cons rfl (.nil _)))) ⟨hlt, by assumption, by assumption, by assumption⟩ (Nat.sub_lt_sub_left hlt (Nat.lt_succ_self i))
    · exfalso; omega
  · obtain rfl : i = qs.length := by omega
    refine Cd.seq (Cd.seq (Cd.region (Seg.step rfl rfl (Yd.move rfl) (Seg.step rfl rfl (Yd.fieldAddr rfl rfl) (Seg.step rfl rfl (Yd.load1 rfl rfl (hB3.row _ _ rfl)) (Seg.step rfl rfl (Yd.lenS rfl rfl) (Seg.step rfl rfl (Yd.lss rfl rfl) ?_)))))))
    refine Seg.nil (At.then_ ?_)
    refine Cd.condk rfl (fun h38 => ?_) (fun h38 => ?_)
    · exfalso; omega
    · refine Cd.exit (At.then_exit (At.then_exit (At.blk_same (At.then_ (Cd.seq (Cd.region (Seg.step rfl rfl (Yd.fieldAddr rfl rfl) ?_)))))))
      refine Seg.step rfl rfl (Yd.load1 rfl rfl (hB3.row _ _ rfl)) (Seg.step rfl rfl (Yd.fieldAddr rfl rfl) (Seg.step rfl rfl (Yd.load1 rfl rfl (hB4.row _ _ rfl)) ?_))
      (refine Seg.call rfl rfl (own_of rfl) rfl (sameRRs an bn _ _ _ (RecsAt.ext kA.1 (by assumption)) (RecsAt.ext kA.2 (by assumption)) (fun r hr => (mA r hr).1) (fun r hr => (mA r hr).2) (fun r hr => (fA.2 r hr).2) gA) ?_; rintro _ w51 ⟨⟨bb, rfl, kk⟩, hE51⟩; obtain rfl : bb = true := kk.2 ha)
      replace hB3 := hB3.ext hE51
      replace hB4 := hB4.ext hE51
      replace hE1 := Ext.trans hE1 hE51
      refine Seg.step rfl rfl (Yd.move rfl) (Seg.step rfl rfl (Yd.fieldAddr rfl rfl) (Seg.step rfl rfl (Yd.load1 rfl rfl (hB3.row _ _ rfl)) (Seg.step rfl rfl (Yd.fieldAddr rfl rfl) (Seg.step rfl rfl (Yd.load1 rfl rfl (hB4.row _ _ rfl)) ?_))))
      (refine Seg.call rfl rfl (own_of rfl) rfl (sameRRs au cu _ _ _ (RecsAt.ext kU.1 (by assumption)) (RecsAt.ext kU.2 (by assumption)) (fun r hr => (mU r hr).1) (fun r hr => (mU r hr).2) (fun r hr => (fU.2 r hr).2) gU) ?_; rintro _ w57 ⟨⟨bb, rfl, kk⟩, hE57⟩; obtain rfl : bb = true := kk.2 hu)
      replace hE51 := Ext.trans hE51 hE57
      replace hB3 := hB3.ext hE57
      replace hB4 := hB4.ext hE57
      replace hE1 := Ext.trans hE1 hE57
      refine Seg.step rfl rfl (Yd.pickT rfl rfl) (Seg.step rfl rfl (Yd.move rfl) (Seg.step rfl rfl (Yd.fieldAddr rfl rfl) (Seg.step rfl rfl (Yd.load1 rfl rfl (hB3.row _ _ rfl)) (Seg.step rfl rfl (Yd.fieldAddr rfl rfl) (Seg.step rfl rfl (Yd.load1 rfl rfl (hB4.row _ _ rfl)) ?_)))))
      (refine Seg.call rfl rfl (own_of rfl) rfl (sameRRs ex dx _ _ _ (RecsAt.ext kX.1 (by assumption)) (RecsAt.ext kX.2 (by assumption)) (fun r hr => (mX r hr).1) (fun r hr => (mX r hr).2) (fun r hr => (fX.2 r hr).2) gX) ?_; rintro _ w64 ⟨⟨bb, rfl, kk⟩, hE64⟩; obtain rfl : bb = true := kk.2 hx)
      replace hE57 := Ext.trans hE57 hE64
      replace hE51 := Ext.trans hE51 hE64
      replace hB3 := hB3.ext hE64
      replace hB4 := hB4.ext hE64
      replace hE1 := Ext.trans hE1 hE64
      refine Seg.step rfl rfl (Yd.pickT rfl rfl) (Seg.step rfl rfl (Yd.assign rfl) (Seg.nil (At.then_ (Cd.ret ?_))))
      exact At.ret Tryz.results11 (.tmp rfl .nil) ⟨rfl, by assumption⟩
end Go.Proofs.YtahpiaaffeiadaaGreat
