/- The program does not refuse. -/
import Derived.Test.YtdomaooegpeneaaAdi
import Derived.Test.YtdomaooegpeneaaWkp
namespace Go.Proofs.Ytdomaooegpeneaa
open Go Go.RowKit
def adr4 (a b c d : Int) : Adr := ⟨4, a, b, c, d, 0, 0, 0, 0, 0, 0, 0, 0, 0, 0, 0, 0, 0⟩
theorem of11 (a b c d : Int) (w : World) (ha : IntKind.u8.wrap a = a) (hb : IntKind.u8.wrap b = b) (hc : IntKind.u8.wrap c = c) (hd : IntKind.u8.wrap d = d) : Ret Try.prog 11 #[.int .i64 a, .int .i64 b, .int .i64 c, .int .i64 d] w fun v w' => v = .agg (adr4 a b c d).cells.toArray ∧ Ext w w' := by
  have hE0 := Ext.refl w
  have he : (⟨4, IntKind.u8.wrap a, IntKind.u8.wrap b, IntKind.u8.wrap c, IntKind.u8.wrap d, 0, 0, 0, 0, 0, 0, 0, 0, 0, 0, 0, 0, 0⟩ : Adr) = adr4 a b c d := by rw [ha, hb, hc, hd]; rfl
  rw [← he]
  refine Ret.body Try.func11 rfl Try.ntmps11 rfl ?_
  refine Cd.seq ?_
  refine Cd.region ?_
  refine Seg.alloc rfl rfl rfl (fun w3 b3 hE3 hB3 hb3 => ?_)
  have hlt3_0 := Nat.le_trans hE0.size hb3
  replace hE0 := Ext.trans hE0 hE3
  refine Seg.nil ?_
  refine At.then_ ?_
  refine Cd.seq ?_
  refine Cd.region ?_
  refine Seg.step rfl rfl (Yd.move rfl) ?_
  refine Seg.step rfl rfl (Yd.convI rfl rfl rfl) ?_
  refine Seg.step rfl rfl (Yd.move rfl) ?_
  refine Seg.step rfl rfl (Yd.convI rfl rfl rfl) ?_
  refine Seg.step rfl rfl (Yd.move rfl) ?_
  refine Seg.step rfl rfl (Yd.convI rfl rfl rfl) ?_
  refine Seg.step rfl rfl (Yd.move rfl) ?_
  refine Seg.step rfl rfl (Yd.convI rfl rfl rfl) ?_
  refine Seg.step rfl rfl (Yd.buildArrT (cs := _ :: _ :: _ :: _ :: _ :: _ :: _ :: _ :: _ :: _ :: _ :: _ :: _ :: _ :: _ :: _ :: []) 16 rfl rfl rfl rfl rfl) ?_
  refine Seg.step rfl rfl (Yd.buildT (cs := _ :: _ :: _ :: _ :: _ :: _ :: _ :: _ :: _ :: _ :: _ :: _ :: _ :: _ :: _ :: _ :: _ :: _ :: []) 18 rfl rfl rfl rfl rfl) ?_
  refine Seg.storeN rfl rfl rfl rfl hB3 rfl (by first | assumption | exact List.all_eq_true.1 rfl) (fun w18 hW18 hB18 => ?_)
  clear hB3
  replace hE3 := Ext.wr' hE3 hW18 (by omega)
  replace hE0 := Ext.wr' hE0 hW18 (by omega)
  refine Seg.nil ?_
  refine At.then_ ?_
  refine Cd.ret ?_
  exact At.ret Try.results11 (.cell rfl (run_loadVarN rfl rfl (by assumption : Bx _ b3 _).row) .nil) ⟨rfl, by assumption⟩
theorem ok10 : within (adr4 10 0 0 1) (adr4 10 0 0 0, 8) := by
  refine ⟨⟨.inl ⟨rfl, ⟨rfl, rfl, rfl, rfl, rfl, rfl, rfl, rfl, rfl, rfl, rfl, rfl⟩, rfl⟩, by decide, by decide⟩, rfl, fun j hj => ?_⟩
  have : j = 0 ∨ j = 1 ∨ j = 2 ∨ j = 3 ∨ j = 4 ∨ j = 5 ∨ j = 6 ∨ j = 7 := by have : (j : Int) < 8 := hj; omega
  rcases this with rfl | rfl | rfl | rfl | rfl | rfl | rfl | rfl <;> rfl
theorem no192 : ¬ within (adr4 192 0 2 1) (adr4 10 0 0 0, 8) := fun h => by
  have := h.2.2 0 (by decide)
  revert this
  decide
theorem wf_adr4 {a b c d : Int} (ha : W8 a) (hb : W8 b) (hc : W8 c) (hd : W8 d) : WfA (adr4 a b c d) := by
  refine ⟨rfl, rfl, ?_⟩
  simp only [Adr.ip, adr4, List.mem_cons, List.not_mem_nil, or_false, forall_eq_or_imp, forall_eq]
  exact ⟨ha, hb, hc, hd, rfl, rfl, rfl, rfl, rfl, rfl, rfl, rfl, rfl, rfl, rfl, rfl⟩
theorem ord5 : ordOf [(adr4 10 0 0 0, 8)] [adr4 192 0 2 1, adr4 10 0 0 1] 2 = [adr4 10 0 0 1, adr4 192 0 2 1] := by
  have h1 : placeOf [(adr4 10 0 0 0, 8)] (adr4 10 0 0 1) = 0 := by simp [placeOf, ok10]
  have h2 : placeOf [(adr4 10 0 0 0, 8)] (adr4 192 0 2 1) = 1 := by simp [placeOf, no192]
  have h3 : List.range 2 = [0, 1] := rfl
  simp [ordOf, h1, h2, h3]
theorem AdrsAt.ext {w w' : World} {v : Value} {qs : List Adr} (h : AdrsAt w v qs) (hE : Ext w w') : AdrsAt w' v qs := Sl.ext h hE
theorem PfxAt.ext {w w' : World} {v : Value} {qs : List El} (h : PfxAt w v qs) (hE : Ext w w') : PfxAt w' v qs := Sl.ext h hE
theorem order5 (v u : Value) (w : World) (h : PfxAt w v [(adr4 10 0 0 0, 8)]) (h' : AdrsAt w u [adr4 192 0 2 1, adr4 10 0 0 1]) :
    Ret Try.prog 9 #[v, u] w fun r w' => AdrsAt w' r [adr4 10 0 0 1, adr4 192 0 2 1] ∧ Ext w w' :=
  (order9 _ _ v u w h (by intro p hp; cases List.mem_singleton.1 hp; exact wf_adr4 rfl rfl rfl rfl) (by decide) h' (by intro p hp; rcases List.mem_cons.1 hp with rfl | hp; exact wf_adr4 rfl rfl rfl rfl; cases List.mem_singleton.1 hp; exact wf_adr4 rfl rfl rfl rfl) (by decide)).mono
    fun r w' ⟨⟨Y, h1, h2, h3⟩, h4⟩ => ⟨by have := ord_of h2 h3; rw [this] at h1; rw [← ord5]; exact h1, h4⟩
theorem same5 (v u : Value) (w : World) (h : AdrsAt w v [adr4 10 0 0 1, adr4 192 0 2 1]) (h' : AdrsAt w u [adr4 10 0 0 1, adr4 192 0 2 1]) : Ret Try.prog 8 #[v, u] w fun r w' => r = .bool true ∧ Ext w w' :=
  (same8 _ _ v u w h h' (by intro p hp; rcases List.mem_cons.1 hp with rfl | hp; exact wf_adr4 rfl rfl rfl rfl; cases List.mem_singleton.1 hp; exact wf_adr4 rfl rfl rfl rfl) (by intro p hp; rcases List.mem_cons.1 hp with rfl | hp; exact wf_adr4 rfl rfl rfl rfl; cases List.mem_singleton.1 hp; exact wf_adr4 rfl rfl rfl rfl) (by decide) (by decide)).mono
    fun r w' ⟨h1, h2⟩ => ⟨by rw [h1, decide_eq_true rfl], h2⟩
theorem works5 (w : World) : Ret Try.prog 5 #[] w fun v w' => v = .bool true ∧ Ext w w' := by
  have hE0 := Ext.refl w
  refine Ret.body Try.func5 rfl Try.ntmps5 rfl ?_
  refine Cd.seq ?_
  refine Cd.region ?_
  refine Seg.step rfl rfl (Yd.assign rfl) ?_
  refine Seg.nil ?_
  refine At.then_ ?_
  refine Cd.seq ?_
  refine Cd.region ?_
  (refine Seg.call rfl rfl (own_of rfl) rfl (of11 192 0 2 1 _ rfl rfl rfl rfl) ?_; rintro _ w8 ⟨rfl, hE8⟩)
  replace hE0 := Ext.trans hE0 hE8
  (refine Seg.call rfl rfl (own_of rfl) rfl (of11 10 0 0 1 _ rfl rfl rfl rfl) ?_; rintro _ w9 ⟨rfl, hE9⟩)
  replace hE8 := Ext.trans hE8 hE9
  replace hE0 := Ext.trans hE0 hE9
  refine Seg.alloc rfl rfl rfl (fun w10 b10 hE10 hB10 hb10 => ?_)
  have hlt10_0 := Nat.le_trans hE9.size hb10
  have hlt10_1 := Nat.le_trans hE8.size hb10
  have hlt10_2 := Nat.le_trans hE0.size hb10
  replace hE9 := Ext.trans hE9 hE10
  replace hE8 := Ext.trans hE8 hE10
  replace hE0 := Ext.trans hE0 hE10
  refine Seg.alloc rfl rfl rfl (fun w11 b11 hE11 hB11 hb11 => ?_)
  have hlt11_0 := Nat.le_trans hE10.size hb11
  have hlt11_1 := Nat.lt_of_lt_of_le hB10.lt hb11
  have hlt11_2 := Nat.le_trans hE9.size hb11
  have hlt11_3 := Nat.le_trans hE8.size hb11
  have hlt11_4 := Nat.le_trans hE0.size hb11
  replace hE10 := Ext.trans hE10 hE11
  replace hB10 := hB10.ext hE11
  replace hE9 := Ext.trans hE9 hE11
  replace hE8 := Ext.trans hE8 hE11
  replace hE0 := Ext.trans hE0 hE11
  refine Seg.storeN rfl rfl rfl rfl hB10 rfl (by first | assumption | exact List.all_eq_true.1 rfl) (fun w12 hW12 hB12 => ?_)
  clear hB10
  replace hB11 := hB11.wr hW12 (by omega)
  replace hE10 := Ext.wr' hE10 hW12 (by omega)
  replace hE9 := Ext.wr' hE9 hW12 (by omega)
  replace hE8 := Ext.wr' hE8 hW12 (by omega)
  replace hE0 := Ext.wr' hE0 hW12 (by omega)
  refine Seg.storeN rfl rfl rfl rfl hB11 rfl (by first | assumption | exact List.all_eq_true.1 rfl) (fun w13 hW13 hB13 => ?_)
  clear hB11
  replace hB12 := hB12.wr hW13 (by omega)
  replace hE10 := Ext.wr' hE10 hW13 (by omega)
  replace hE9 := Ext.wr' hE9 hW13 (by omega)
  replace hE8 := Ext.wr' hE8 hW13 (by omega)
  replace hE0 := Ext.wr' hE0 hW13 (by omega)
  refine Seg.nil ?_
  refine At.then_ ?_
  refine Cd.seq ?_
  refine Cd.region ?_
  (refine Seg.call rfl rfl (own_of rfl) rfl (of11 10 0 0 0 _ rfl rfl rfl rfl) ?_; rintro _ w18 ⟨rfl, hE18⟩)
  replace hW13 := Wr.trans hW13 (Ext.wr hE18 _)
  replace hB13 := hB13.ext hE18
  replace hB12 := hB12.ext hE18
  replace hE10 := Ext.trans hE10 hE18
  replace hE9 := Ext.trans hE9 hE18
  replace hE8 := Ext.trans hE8 hE18
  replace hE0 := Ext.trans hE0 hE18
  refine Seg.step rfl rfl (Yd.buildT (cs := _ :: _ :: _ :: _ :: _ :: _ :: _ :: _ :: _ :: _ :: _ :: _ :: _ :: _ :: _ :: _ :: _ :: _ :: _ :: []) 19 rfl rfl rfl rfl rfl) ?_
  refine Seg.buildSliceV rfl rfl rfl rfl rfl rfl rfl rfl rfl rfl (fun w20 b20 hE20 hB20 hb20 hO20 => ?_)
  have hlt20_0 := Nat.le_trans hE18.size hb20
  have hlt20_1 := Nat.lt_of_lt_of_le hB13.lt hb20
  have hlt20_2 := Nat.lt_of_lt_of_le hB12.lt hb20
  have hlt20_3 := Nat.le_trans hE10.size hb20
  have hlt20_4 := Nat.le_trans hE9.size hb20
  have hlt20_5 := Nat.le_trans hE8.size hb20
  have hlt20_6 := Nat.le_trans hE0.size hb20
  replace hE18 := Ext.trans hE18 hE20
  replace hW13 := Wr.trans hW13 (Ext.wr hE20 _)
  replace hB13 := hB13.ext hE20
  replace hB12 := hB12.ext hE20
  replace hE10 := Ext.trans hE10 hE20
  replace hE9 := Ext.trans hE9 hE20
  replace hE8 := Ext.trans hE8 hE20
  replace hE0 := Ext.trans hE0 hE20
  refine Seg.step rfl rfl (Yd.assign rfl) ?_
  refine Seg.nil ?_
  refine At.then_ ?_
  refine Cd.seq ?_
  refine Cd.anyE (by kernel_rfl) (fun w25 hE25 => ?_)
  replace hE20 := Ext.trans hE20 hE25
  replace hB20 := hB20.ext hE25
  replace hO20 := own_ext hO20 hE25
  replace hE18 := Ext.trans hE18 hE25
  replace hW13 := Wr.trans hW13 (Ext.wr hE25 _)
  replace hB13 := hB13.ext hE25
  replace hB12 := hB12.ext hE25
  replace hE10 := Ext.trans hE10 hE25
  replace hE9 := Ext.trans hE9 hE25
  replace hE8 := Ext.trans hE8 hE25
  replace hE0 := Ext.trans hE0 hE25
  refine SegA.pure 0 rfl (by kernel_rfl) (by kernel_rfl) (by kernel_rfl) rfl rfl (fun _ => Yd.move rfl) ?_
  refine SegA.held 10 ?_
  refine SegG.take 1 rfl (by kernel_rfl) (by kernel_rfl) (by kernel_rfl) (by kernel_rfl) (by kernel_rfl) rfl rfl (fun w' hw' => Yd.loadN rfl rfl rfl (hB12.ext hw').row) ?_
  refine SegG.take 2 rfl (by kernel_rfl) (by kernel_rfl) (by kernel_rfl) (by kernel_rfl) (by kernel_rfl) rfl rfl (fun w' hw' => Yd.loadN rfl rfl rfl (hB13.ext hw').row) ?_
  refine SegG.take 5 rfl (by kernel_rfl) (by kernel_rfl) (by kernel_rfl) (by kernel_rfl) (by kernel_rfl) rfl rfl (fun w' hw' => Yd.loadN rfl rfl rfl (hB13.ext hw').row) ?_
  refine SegG.take 6 rfl (by kernel_rfl) (by kernel_rfl) (by kernel_rfl) (by kernel_rfl) (by kernel_rfl) rfl rfl (fun w' hw' => Yd.loadN rfl rfl rfl (hB12.ext hw').row) ?_
  refine SegG.twoSeg (o := ⟨_, _, _, _, _, _⟩) (o' := ⟨_, _, _, _, _, _⟩) 3 7 rfl rfl (by kernel_rfl) ?_ ?_
  refine Seg.buildSliceV rfl rfl rfl rfl rfl rfl rfl rfl rfl rfl (fun w33 b33 hE33 hB33 hb33 hO33 => ?_)
  have hlt33_0 := Nat.le_trans hE25.size hb33
  have hlt33_1 := Nat.le_trans hE20.size hb33
  have hlt33_2 := Nat.lt_of_lt_of_le hB20.lt hb33
  have hlt33_3 := Nat.le_trans hE18.size hb33
  have hlt33_4 := Nat.lt_of_lt_of_le hB13.lt hb33
  have hlt33_5 := Nat.lt_of_lt_of_le hB12.lt hb33
  have hlt33_6 := Nat.le_trans hE10.size hb33
  have hlt33_7 := Nat.le_trans hE9.size hb33
  have hlt33_8 := Nat.le_trans hE8.size hb33
  have hlt33_9 := Nat.le_trans hE0.size hb33
  replace hE25 := Ext.trans hE25 hE33
  replace hE20 := Ext.trans hE20 hE33
  replace hB20 := hB20.ext hE33
  replace hO20 := own_ext hO20 hE33
  replace hE18 := Ext.trans hE18 hE33
  replace hW13 := Wr.trans hW13 (Ext.wr hE33 _)
  replace hB13 := hB13.ext hE33
  replace hB12 := hB12.ext hE33
  replace hE10 := Ext.trans hE10 hE33
  replace hE9 := Ext.trans hE9 hE33
  replace hE8 := Ext.trans hE8 hE33
  replace hE0 := Ext.trans hE0 hE33
  refine SegG.back rfl (by first | assumption | exact Ext.refl _) ?_
  refine SegG.twoSeg (o := ⟨_, _, _, _, _, _⟩) (o' := ⟨_, _, _, _, _, _⟩) 4 7 rfl rfl (by kernel_rfl) ?_ ?_
  (refine Seg.call rfl rfl (own_of rfl) rfl (order5 _ _ _ (Bx.sl (by assumption) rfl _) (Bx.sl (by assumption) rfl _)) ?_; rintro _ w36 ⟨hAt, hE36⟩)
  replace hE33 := Ext.trans hE33 hE36
  replace hB33 := hB33.ext hE36
  replace hO33 := own_ext hO33 hE36
  replace hE25 := Ext.trans hE25 hE36
  replace hE20 := Ext.trans hE20 hE36
  replace hB20 := hB20.ext hE36
  replace hO20 := own_ext hO20 hE36
  replace hE18 := Ext.trans hE18 hE36
  replace hW13 := Wr.trans hW13 (Ext.wr hE36 _)
  replace hB13 := hB13.ext hE36
  replace hB12 := hB12.ext hE36
  replace hE10 := Ext.trans hE10 hE36
  replace hE9 := Ext.trans hE9 hE36
  replace hE8 := Ext.trans hE8 hE36
  replace hE0 := Ext.trans hE0 hE36
  refine SegG.back rfl (by first | assumption | exact Ext.refl _) ?_
  refine SegG.oneSeg (o := ⟨_, _, _, _, _, _⟩) 7 rfl (by kernel_rfl) ?_
  refine Seg.buildSliceV rfl rfl rfl rfl rfl rfl rfl rfl rfl rfl (fun w39 b39 hE39 hB39 hb39 hO39 => ?_)
  have hlt39_0 := Nat.le_trans hE36.size hb39
  have hlt39_1 := Nat.le_trans hE33.size hb39
  have hlt39_2 := Nat.lt_of_lt_of_le hB33.lt hb39
  have hlt39_3 := Nat.le_trans hE25.size hb39
  have hlt39_4 := Nat.le_trans hE20.size hb39
  have hlt39_5 := Nat.lt_of_lt_of_le hB20.lt hb39
  have hlt39_6 := Nat.le_trans hE18.size hb39
  have hlt39_7 := Nat.lt_of_lt_of_le hB13.lt hb39
  have hlt39_8 := Nat.lt_of_lt_of_le hB12.lt hb39
  have hlt39_9 := Nat.le_trans hE10.size hb39
  have hlt39_10 := Nat.le_trans hE9.size hb39
  have hlt39_11 := Nat.le_trans hE8.size hb39
  have hlt39_12 := Nat.le_trans hE0.size hb39
  replace hAt := hAt.ext hE39
  replace hE36 := Ext.trans hE36 hE39
  replace hE33 := Ext.trans hE33 hE39
  replace hB33 := hB33.ext hE39
  replace hO33 := own_ext hO33 hE39
  replace hE25 := Ext.trans hE25 hE39
  replace hE20 := Ext.trans hE20 hE39
  replace hB20 := hB20.ext hE39
  replace hO20 := own_ext hO20 hE39
  replace hE18 := Ext.trans hE18 hE39
  replace hW13 := Wr.trans hW13 (Ext.wr hE39 _)
  replace hB13 := hB13.ext hE39
  replace hB12 := hB12.ext hE39
  replace hE10 := Ext.trans hE10 hE39
  replace hE9 := Ext.trans hE9 hE39
  replace hE8 := Ext.trans hE8 hE39
  replace hE0 := Ext.trans hE0 hE39
  refine SegG.back rfl (by first | assumption | exact Ext.refl _) ?_
  refine SegG.oneSeg (o := ⟨_, _, _, _, _, _⟩) 8 rfl (by kernel_rfl) ?_
  (refine Seg.call rfl rfl (own_of rfl) rfl (same5 _ _ _ (by first | exact hAt | exact hAt.ext (by assumption)) (Bx.sl (by assumption) rfl _)) ?_; rintro _ w42 ⟨rfl, hE42⟩)
  replace hE39 := Ext.trans hE39 hE42
  replace hB39 := hB39.ext hE42
  replace hO39 := own_ext hO39 hE42
  replace hAt := hAt.ext hE42
  replace hE36 := Ext.trans hE36 hE42
  replace hE33 := Ext.trans hE33 hE42
  replace hB33 := hB33.ext hE42
  replace hO33 := own_ext hO33 hE42
  replace hE25 := Ext.trans hE25 hE42
  replace hE20 := Ext.trans hE20 hE42
  replace hB20 := hB20.ext hE42
  replace hO20 := own_ext hO20 hE42
  replace hE18 := Ext.trans hE18 hE42
  replace hW13 := Wr.trans hW13 (Ext.wr hE42 _)
  replace hB13 := hB13.ext hE42
  replace hB12 := hB12.ext hE42
  replace hE10 := Ext.trans hE10 hE42
  replace hE9 := Ext.trans hE9 hE42
  replace hE8 := Ext.trans hE8 hE42
  replace hE0 := Ext.trans hE0 hE42
  refine SegG.back rfl (by first | assumption | exact Ext.refl _) ?_
  refine SegG.take 9 rfl (by kernel_rfl) (by kernel_rfl) (by kernel_rfl) (by kernel_rfl) (by kernel_rfl) rfl rfl (fun w' hw' => Yd.assign rfl) ?_
  refine SegG.done (by kernel_rfl) ?_
  refine At.then_ ?_
  refine Cd.ret ?_
  exact At.ret Try.results5 (.tmp rfl .nil) ⟨rfl, by assumption⟩
  · refine Seg.buildSliceV rfl rfl rfl rfl rfl rfl rfl rfl rfl rfl (fun w34 b34 hE34 hB34 hb34 hO34 => ?_)
    have hlt34_0 := Nat.le_trans hE33.size hb34
    have hlt34_1 := Nat.lt_of_lt_of_le hB33.lt hb34
    have hlt34_2 := Nat.le_trans hE25.size hb34
    have hlt34_3 := Nat.le_trans hE20.size hb34
    have hlt34_4 := Nat.lt_of_lt_of_le hB20.lt hb34
    have hlt34_5 := Nat.le_trans hE18.size hb34
    have hlt34_6 := Nat.lt_of_lt_of_le hB13.lt hb34
    have hlt34_7 := Nat.lt_of_lt_of_le hB12.lt hb34
    have hlt34_8 := Nat.le_trans hE10.size hb34
    have hlt34_9 := Nat.le_trans hE9.size hb34
    have hlt34_10 := Nat.le_trans hE8.size hb34
    have hlt34_11 := Nat.le_trans hE0.size hb34
    replace hE33 := Ext.trans hE33 hE34
    replace hB33 := hB33.ext hE34
    replace hO33 := own_ext hO33 hE34
    replace hE25 := Ext.trans hE25 hE34
    replace hE20 := Ext.trans hE20 hE34
    replace hB20 := hB20.ext hE34
    replace hO20 := own_ext hO20 hE34
    replace hE18 := Ext.trans hE18 hE34
    replace hW13 := Wr.trans hW13 (Ext.wr hE34 _)
    replace hB13 := hB13.ext hE34
    replace hB12 := hB12.ext hE34
    replace hE10 := Ext.trans hE10 hE34
    replace hE9 := Ext.trans hE9 hE34
    replace hE8 := Ext.trans hE8 hE34
    replace hE0 := Ext.trans hE0 hE34
    refine SegG.back rfl (by first | assumption | exact Ext.refl _) ?_
    refine SegG.oneSeg (o := ⟨_, _, _, _, _, _⟩) 4 rfl (by kernel_rfl) ?_
    (refine Seg.call rfl rfl (own_of rfl) rfl (order5 _ _ _ (Bx.sl (by assumption) rfl _) (Bx.sl (by assumption) rfl _)) ?_; rintro _ w37 ⟨hAt, hE37⟩)
    replace hE34 := Ext.trans hE34 hE37
    replace hB34 := hB34.ext hE37
    replace hO34 := own_ext hO34 hE37
    replace hE33 := Ext.trans hE33 hE37
    replace hB33 := hB33.ext hE37
    replace hO33 := own_ext hO33 hE37
    replace hE25 := Ext.trans hE25 hE37
    replace hE20 := Ext.trans hE20 hE37
    replace hB20 := hB20.ext hE37
    replace hO20 := own_ext hO20 hE37
    replace hE18 := Ext.trans hE18 hE37
    replace hW13 := Wr.trans hW13 (Ext.wr hE37 _)
    replace hB13 := hB13.ext hE37
    replace hB12 := hB12.ext hE37
    replace hE10 := Ext.trans hE10 hE37
    replace hE9 := Ext.trans hE9 hE37
    replace hE8 := Ext.trans hE8 hE37
    replace hE0 := Ext.trans hE0 hE37
    refine SegG.back rfl (by first | assumption | exact Ext.refl _) ?_
    refine SegG.oneSeg (o := ⟨_, _, _, _, _, _⟩) 8 rfl (by kernel_rfl) ?_
    (refine Seg.call rfl rfl (own_of rfl) rfl (same5 _ _ _ (by first | exact hAt | exact hAt.ext (by assumption)) (Bx.sl (by assumption) rfl _)) ?_; rintro _ w40 ⟨rfl, hE40⟩)
    replace hAt := hAt.ext hE40
    replace hE37 := Ext.trans hE37 hE40
    replace hE34 := Ext.trans hE34 hE40
    replace hB34 := hB34.ext hE40
    replace hO34 := own_ext hO34 hE40
    replace hE33 := Ext.trans hE33 hE40
    replace hB33 := hB33.ext hE40
    replace hO33 := own_ext hO33 hE40
    replace hE25 := Ext.trans hE25 hE40
    replace hE20 := Ext.trans hE20 hE40
    replace hB20 := hB20.ext hE40
    replace hO20 := own_ext hO20 hE40
    replace hE18 := Ext.trans hE18 hE40
    replace hW13 := Wr.trans hW13 (Ext.wr hE40 _)
    replace hB13 := hB13.ext hE40
    replace hB12 := hB12.ext hE40
    replace hE10 := Ext.trans hE10 hE40
    replace hE9 := Ext.trans hE9 hE40
    replace hE8 := Ext.trans hE8 hE40
    replace hE0 := Ext.trans hE0 hE40
    refine SegG.back rfl (by first | assumption | exact Ext.refl _) ?_
    refine SegG.take 9 rfl (by kernel_rfl) (by kernel_rfl) (by kernel_rfl) (by kernel_rfl) (by kernel_rfl) rfl rfl (fun w' hw' => Yd.assign rfl) ?_
    refine SegG.done (by kernel_rfl) ?_
    refine At.then_ ?_
    refine Cd.ret ?_
    exact At.ret Try.results5 (.tmp rfl .nil) ⟨rfl, by assumption⟩
  · refine Seg.buildSliceV rfl rfl rfl rfl rfl rfl rfl rfl rfl rfl (fun w26 b26 hE26 hB26 hb26 hO26 => ?_)
    have hlt26_0 := Nat.le_trans hE25.size hb26
    have hlt26_1 := Nat.le_trans hE20.size hb26
    have hlt26_2 := Nat.lt_of_lt_of_le hB20.lt hb26
    have hlt26_3 := Nat.le_trans hE18.size hb26
    have hlt26_4 := Nat.lt_of_lt_of_le hB13.lt hb26
    have hlt26_5 := Nat.lt_of_lt_of_le hB12.lt hb26
    have hlt26_6 := Nat.le_trans hE10.size hb26
    have hlt26_7 := Nat.le_trans hE9.size hb26
    have hlt26_8 := Nat.le_trans hE8.size hb26
    have hlt26_9 := Nat.le_trans hE0.size hb26
    replace hE25 := Ext.trans hE25 hE26
    replace hE20 := Ext.trans hE20 hE26
    replace hB20 := hB20.ext hE26
    replace hO20 := own_ext hO20 hE26
    replace hE18 := Ext.trans hE18 hE26
    replace hW13 := Wr.trans hW13 (Ext.wr hE26 _)
    replace hB13 := hB13.ext hE26
    replace hB12 := hB12.ext hE26
    replace hE10 := Ext.trans hE10 hE26
    replace hE9 := Ext.trans hE9 hE26
    replace hE8 := Ext.trans hE8 hE26
    replace hE0 := Ext.trans hE0 hE26
    refine SegG.back rfl (by first | assumption | exact Ext.refl _) ?_
    refine SegG.oneSeg (o := ⟨_, _, _, _, _, _⟩) 3 rfl (by kernel_rfl) ?_
    refine Seg.buildSliceV rfl rfl rfl rfl rfl rfl rfl rfl rfl rfl (fun w29 b29 hE29 hB29 hb29 hO29 => ?_)
    have hlt29_0 := Nat.le_trans hE26.size hb29
    have hlt29_1 := Nat.lt_of_lt_of_le hB26.lt hb29
    have hlt29_2 := Nat.le_trans hE25.size hb29
    have hlt29_3 := Nat.le_trans hE20.size hb29
    have hlt29_4 := Nat.lt_of_lt_of_le hB20.lt hb29
    have hlt29_5 := Nat.le_trans hE18.size hb29
    have hlt29_6 := Nat.lt_of_lt_of_le hB13.lt hb29
    have hlt29_7 := Nat.lt_of_lt_of_le hB12.lt hb29
    have hlt29_8 := Nat.le_trans hE10.size hb29
    have hlt29_9 := Nat.le_trans hE9.size hb29
    have hlt29_10 := Nat.le_trans hE8.size hb29
    have hlt29_11 := Nat.le_trans hE0.size hb29
    replace hE26 := Ext.trans hE26 hE29
    replace hB26 := hB26.ext hE29
    replace hO26 := own_ext hO26 hE29
    replace hE25 := Ext.trans hE25 hE29
    replace hE20 := Ext.trans hE20 hE29
    replace hB20 := hB20.ext hE29
    replace hO20 := own_ext hO20 hE29
    replace hE18 := Ext.trans hE18 hE29
    replace hW13 := Wr.trans hW13 (Ext.wr hE29 _)
    replace hB13 := hB13.ext hE29
    replace hB12 := hB12.ext hE29
    replace hE10 := Ext.trans hE10 hE29
    replace hE9 := Ext.trans hE9 hE29
    replace hE8 := Ext.trans hE8 hE29
    replace hE0 := Ext.trans hE0 hE29
    refine SegG.back rfl (by first | assumption | exact Ext.refl _) ?_
    refine SegG.oneSeg (o := ⟨_, _, _, _, _, _⟩) 4 rfl (by kernel_rfl) ?_
    (refine Seg.call rfl rfl (own_of rfl) rfl (order5 _ _ _ (Bx.sl (by assumption) rfl _) (Bx.sl (by assumption) rfl _)) ?_; rintro _ w32 ⟨hAt, hE32⟩)
    replace hE29 := Ext.trans hE29 hE32
    replace hB29 := hB29.ext hE32
    replace hO29 := own_ext hO29 hE32
    replace hE26 := Ext.trans hE26 hE32
    replace hB26 := hB26.ext hE32
    replace hO26 := own_ext hO26 hE32
    replace hE25 := Ext.trans hE25 hE32
    replace hE20 := Ext.trans hE20 hE32
    replace hB20 := hB20.ext hE32
    replace hO20 := own_ext hO20 hE32
    replace hE18 := Ext.trans hE18 hE32
    replace hW13 := Wr.trans hW13 (Ext.wr hE32 _)
    replace hB13 := hB13.ext hE32
    replace hB12 := hB12.ext hE32
    replace hE10 := Ext.trans hE10 hE32
    replace hE9 := Ext.trans hE9 hE32
    replace hE8 := Ext.trans hE8 hE32
    replace hE0 := Ext.trans hE0 hE32
    refine SegG.back rfl (by first | assumption | exact Ext.refl _) ?_
    refine SegG.oneSeg (o := ⟨_, _, _, _, _, _⟩) 8 rfl (by kernel_rfl) ?_
    (refine Seg.call rfl rfl (own_of rfl) rfl (same5 _ _ _ (by first | exact hAt | exact hAt.ext (by assumption)) (Bx.sl (by assumption) rfl _)) ?_; rintro _ w35 ⟨rfl, hE35⟩)
    replace hAt := hAt.ext hE35
    replace hE32 := Ext.trans hE32 hE35
    replace hE29 := Ext.trans hE29 hE35
    replace hB29 := hB29.ext hE35
    replace hO29 := own_ext hO29 hE35
    replace hE26 := Ext.trans hE26 hE35
    replace hB26 := hB26.ext hE35
    replace hO26 := own_ext hO26 hE35
    replace hE25 := Ext.trans hE25 hE35
    replace hE20 := Ext.trans hE20 hE35
    replace hB20 := hB20.ext hE35
    replace hO20 := own_ext hO20 hE35
    replace hE18 := Ext.trans hE18 hE35
    replace hW13 := Wr.trans hW13 (Ext.wr hE35 _)
    replace hB13 := hB13.ext hE35
    replace hB12 := hB12.ext hE35
    replace hE10 := Ext.trans hE10 hE35
    replace hE9 := Ext.trans hE9 hE35
    replace hE8 := Ext.trans hE8 hE35
    replace hE0 := Ext.trans hE0 hE35
    refine SegG.back rfl (by first | assumption | exact Ext.refl _) ?_
    refine SegG.take 9 rfl (by kernel_rfl) (by kernel_rfl) (by kernel_rfl) (by kernel_rfl) (by kernel_rfl) rfl rfl (fun w' hw' => Yd.assign rfl) ?_
    refine SegG.done (by kernel_rfl) ?_
    refine At.then_ ?_
    refine Cd.ret ?_
    exact At.ret Try.results5 (.tmp rfl .nil) ⟨rfl, by assumption⟩
end Go.Proofs.Ytdomaooegpeneaa
