/- Records checked: rdata.Check. -/
import Derived.Test.YtahpiaaffeiadaaGreatZrh
namespace Go.Proofs.YtahpiaaffeiadaaGreat
open Go Go.RowKit
def RecOk (r : Rec) : Prop := chkN r.nm = 0 ∧ in16 r.ty ∧ in16 r.cl ∧ in32 r.ttl ∧ DatOk r
theorem in_two {m a b : Int} (h : ∀ n ∈ [a, b], 0 ≤ n ∧ n ≤ m) : (0 ≤ a ∧ a ≤ m) ∧ 0 ≤ b ∧ b ≤ m := ⟨h a List.mem_cons_self, h b (List.mem_cons_of_mem _ List.mem_cons_self)⟩
theorem in_one {m a : Int} (h : ∀ n ∈ [a], 0 ≤ n ∧ n ≤ m) : 0 ≤ a ∧ a ≤ m := h a List.mem_cons_self
def rz : Rec := ⟨[], [], [], .slice none 0 0, .slice none 0 0, .slice none 0 0, 0, 0, 0, 0, 0, 0, 0, 0, [], 0, 0, 0, 0, 0, 0, 0, 0, 0, 0, 0, 0, 0, 0, 0, 0, 0, 0, 0, 0, 0⟩
theorem rz_wf : WfR rz := wf_zero rz (by
  intro i hi
  simp only [Rec.nums, rz, List.mem_cons, List.not_mem_nil, or_false] at hi
  rcases hi with rfl | rfl | rfl | rfl | rfl <;> exact wf0_64)
theorem bare_of {r : Rec} (h1 : ¬¬ r.adr = rz.adr) (h2 : ¬ (0 : Int) < (r.tg.length : Int)) (h3 : ¬ (0 : Int) < (r.ml.length : Int)) (h4 : ¬ r.pri ≠ 0) (h5 : ¬ r.wt ≠ 0) (h6 : ¬ r.pt ≠ 0) (h7 : ¬¬ r.nums = rz.nums) (h8 : ¬ r.raw ≠ []) : Bare r :=
  ⟨Classical.not_not.1 h1, List.eq_nil_of_length_eq_zero (by omega), List.eq_nil_of_length_eq_zero (by omega), ⟨Classical.not_not.1 h4, Classical.not_not.1 h5, Classical.not_not.1 h6⟩, Classical.not_not.1 h7, Classical.not_not.1 h8⟩
theorem ok_of {r : Rec} (h1 : ¬ chkN r.nm ≠ 0) (h2 : ¬¬∀ n ∈ [r.ty, r.cl], 0 ≤ n ∧ n ≤ 65535) (h3 : ¬¬∀ n ∈ [r.ttl], 0 ≤ n ∧ n ≤ 4294967295) (h4 : DatOk r) : RecOk r :=
  ⟨Classical.not_not.1 h1, (in_two (Classical.not_not.1 h2)).1, (in_two (Classical.not_not.1 h2)).2, in_one (Classical.not_not.1 h3), h4⟩
set_option maxHeartbeats 800000 in
theorem rcheck_any (r : Rec) (w : World) (hr : RecAt w r) (hw : WfR r) (hf : FitR r) : Ret Tryz.prog 44 #[.agg r.cells.toArray] w fun v w' => (∃ e, v = .int .i64 e ∧ (e = 0 → RecOk r)) ∧ Ext w w' := by
  have hE0 := Ext.refl w
  have hN : Keep (RecAt w r) := hr
  have hzn : szN r.nm ≤ 4611686018427387904 := Nat.le_trans (fit_sz hf.1) (by decide)
  refine Ret.body Tryz.func44 rfl Tryz.ntmps44 rfl ?_
  clear hr
  refine Cd.seq (Cd.region (Seg.box rfl rfl rfl (fun w3 b3 hE3 hB3 hb3 => ?_)))
  have hlt3_0 := Nat.le_trans hE0.size hb3
  replace hE0 := Ext.trans hE0 hE3
  refine Seg.step rfl rfl (Yd.assign rfl) (Seg.nil (At.then_ (Cd.seq (Cd.seq (Cd.region (Seg.step rfl rfl (Yd.fieldAddr rfl rfl) (Seg.step rfl rfl (Yd.load1 rfl rfl (hB3.row _ _ rfl)) ?_)))))))
  (refine Seg.call rfl rfl (own_of rfl) rfl (dcheck_any r.nm r.vn _ (Sl.ext (show NameAt w r.vn r.nm from hN.1) hE0) hzn) ?_; rintro _ w12 ⟨rfl, hE12⟩)
  replace hE3 := Ext.trans hE3 hE12
  replace hB3 := hB3.ext hE12
  replace hE0 := Ext.trans hE0 hE12
  refine Seg.step rfl rfl (Yd.assign rfl) (Seg.nil (At.then_ (Cd.seq (Cd.region (Seg.step rfl rfl (Yd.move rfl) (Seg.step rfl rfl (Yd.neq rfl rfl) (Seg.nil ?_)))))))
  refine At.then_ ?_
  refine Cd.condk rfl (fun h22 => ?_) (fun h22 => ?_)
  · refine Cd.seq (Cd.region (Seg.step rfl rfl (Yd.move rfl) (Seg.step rfl rfl (Yd.assign rfl) (Seg.nil (At.then_ (Cd.ret (At.then_ret ?_)))))))
    exact At.ret Tryz.results44 (.tmp rfl .nil) ⟨⟨_, rfl, fun h => absurd h (by first | assumption | decide)⟩, hE0⟩
  · refine Cd.skip (At.then_ (Cd.seq (Cd.seq (Cd.region (Seg.step rfl rfl (Yd.fieldAddr rfl rfl) (Seg.step rfl rfl (Yd.load1 rfl rfl (hB3.row _ _ rfl)) (Seg.step rfl rfl (Yd.fieldAddr rfl rfl) ?_)))))))
    refine Seg.step rfl rfl (Yd.load1 rfl rfl (hB3.row _ _ rfl)) (Seg.buildSliceV rfl rfl rfl rfl rfl rfl rfl rfl rfl rfl (fun w43 b43 hE43 hB43 hb43 hO43 => ?_))
    have hlt43_0 := Nat.le_trans hE12.size hb43
    have hlt43_1 := Nat.le_trans hE3.size hb43
    have hlt43_2 := Nat.lt_of_lt_of_le hB3.lt hb43
    have hlt43_3 := Nat.le_trans hE0.size hb43
    replace hE12 := Ext.trans hE12 hE43
    replace hE3 := Ext.trans hE3 hE43
    replace hB3 := hB3.ext hE43
    replace hE0 := Ext.trans hE0 hE43
    (refine Seg.call rfl rfl (own_of rfl) rfl (rwithin_any 65535 [r.ty, r.cl] _ _ (own_sl hO43) (show 2 ≤ 100 by decide)) ?_; rintro _ w44 ⟨rfl, hE44⟩)
    replace hE43 := Ext.trans hE43 hE44
    replace hB43 := hB43.ext hE44
    replace hO43 := own_ext hO43 hE44
    replace hE12 := Ext.trans hE12 hE44
    replace hE3 := Ext.trans hE3 hE44
    replace hB3 := hB3.ext hE44
    replace hE0 := Ext.trans hE0 hE44
    refine Seg.step rfl rfl (Yd.notp rfl) (Seg.step rfl rfl (Yd.move rfl) ?_)
    refine Seg.gsplitp rfl rfl (fun h47 => ?_) (fun h47 => ?_)
    · refine Seg.skip rfl rfl (Seg.skip rfl rfl (Seg.skip rfl rfl (Seg.skip rfl rfl (Seg.skip rfl rfl (Seg.step rfl rfl (Yd.pickT rfl rfl) (Seg.nil (At.then_ ?_)))))))
      refine Cd.condT rfl (Cd.seq (Cd.region (Seg.step rfl rfl (Yd.assign rfl) (Seg.nil (At.then_ (Cd.ret (At.then_ret ?_)))))))
      exact At.ret Tryz.results44 (.tmp rfl .nil) ⟨⟨_, rfl, fun h => absurd h (by first | assumption | decide)⟩, hE0⟩
    · refine Seg.step rfl rfl (Yd.fieldAddr rfl rfl) (Seg.step rfl rfl (Yd.load1 rfl rfl (hB3.row _ _ rfl)) (Seg.buildSliceV rfl rfl rfl rfl rfl rfl rfl rfl rfl rfl (fun w69 b69 hE69 hB69 hb69 hO69 => ?_)))
      have hlt69_0 := Nat.le_trans hE44.size hb69
      have hlt69_1 := Nat.le_trans hE43.size hb69
      have hlt69_2 := Nat.lt_of_lt_of_le hB43.lt hb69
      have hlt69_3 := Nat.le_trans hE12.size hb69
      have hlt69_4 := Nat.le_trans hE3.size hb69
      have hlt69_5 := Nat.lt_of_lt_of_le hB3.lt hb69
      have hlt69_6 := Nat.le_trans hE0.size hb69
      replace hE44 := Ext.trans hE44 hE69
      replace hE43 := Ext.trans hE43 hE69
      replace hB43 := hB43.ext hE69
      replace hO43 := own_ext hO43 hE69
      replace hE12 := Ext.trans hE12 hE69
      replace hE3 := Ext.trans hE3 hE69
      replace hB3 := hB3.ext hE69
      replace hE0 := Ext.trans hE0 hE69
      (refine Seg.call rfl rfl (own_of rfl) rfl (rwithin_any 4294967295 [r.ttl] _ _ (own_sl (by assumption)) (show 1 ≤ 100 by decide)) ?_; rintro _ w70 ⟨rfl, hE70⟩)
      replace hE69 := Ext.trans hE69 hE70
      replace hB69 := hB69.ext hE70
      replace hO69 := own_ext hO69 hE70
      replace hE44 := Ext.trans hE44 hE70
      replace hE43 := Ext.trans hE43 hE70
      replace hB43 := hB43.ext hE70
      replace hO43 := own_ext hO43 hE70
      replace hE12 := Ext.trans hE12 hE70
      replace hE3 := Ext.trans hE3 hE70
      replace hB3 := hB3.ext hE70
      replace hE0 := Ext.trans hE0 hE70
      refine Seg.step rfl rfl (Yd.notp rfl) (Seg.step rfl rfl (Yd.pickF rfl rfl) (Seg.nil (At.then_ ?_)))
      refine Cd.condk rfl (fun h75 => ?_) (fun h75 => ?_)
      · refine Cd.seq (Cd.region (Seg.step rfl rfl (Yd.assign rfl) (Seg.nil (At.then_ (Cd.ret (At.then_ret ?_))))))
        exact At.ret Tryz.results44 (.tmp rfl .nil) ⟨⟨_, rfl, fun h => absurd h (by first | assumption | decide)⟩, hE0⟩
      · refine Cd.skip (At.then_ (Cd.seq (Cd.region (Seg.step rfl rfl (Yd.loadN rfl rfl rfl hB3.row) ?_))))
        (refine Seg.call rfl rfl (own_of rfl) rfl (rhas_any r _ (RecAt.ext hN hE0) hw hf) ?_; rintro _ w91 ⟨⟨r2, e2, rfl, hr2, hw2, hraw2, hd2⟩, hE91⟩; obtain ⟨nm2, tg2, ml2, vn2, vt2, vm2, ty2, cl2, ttl2, fam2, zone2, pri2, wt2, pt2, raw2, j0, j1, j2, j3, j4, j5, j6, j7, j8, j9, j10, j11, j12, j13, j14, j15, n0, n1, n2, n3, n4⟩ := r2; obtain ⟨⟨na, nc, hvn, _, _, _⟩, ⟨ta, tc, hvt, _, _, _⟩, ⟨ma, mc, hvm, _, _, _⟩⟩ := hr2; simp only at hvn hvt hvm hraw2; subst hvn; subst hvt; subst hvm)
        replace hE70 := Ext.trans hE70 hE91
        replace hE69 := Ext.trans hE69 hE91
        replace hB69 := hB69.ext hE91
        replace hO69 := own_ext hO69 hE91
        replace hE44 := Ext.trans hE44 hE91
        replace hE43 := Ext.trans hE43 hE91
        replace hB43 := hB43.ext hE91
        replace hO43 := own_ext hO43 hE91
        replace hE12 := Ext.trans hE12 hE91
        replace hE3 := Ext.trans hE3 hE91
        replace hB3 := hB3.ext hE91
        replace hE0 := Ext.trans hE0 hE91
        refine Seg.step rfl rfl (Yd.move rfl) (Seg.step rfl rfl (Yd.extract rfl rfl) (Seg.step rfl rfl (Yd.extract rfl rfl) (Seg.alloc rfl rfl rfl (fun w95 b95 hE95 hB95 hb95 => ?_))))
        have hlt95_0 := Nat.le_trans hE91.size hb95
        have hlt95_1 := Nat.le_trans hE70.size hb95
        have hlt95_2 := Nat.le_trans hE69.size hb95
        have hlt95_3 := Nat.lt_of_lt_of_le hB69.lt hb95
        have hlt95_4 := Nat.le_trans hE44.size hb95
        have hlt95_5 := Nat.le_trans hE43.size hb95
        have hlt95_6 := Nat.lt_of_lt_of_le hB43.lt hb95
        have hlt95_7 := Nat.le_trans hE12.size hb95
        have hlt95_8 := Nat.le_trans hE3.size hb95
        have hlt95_9 := Nat.lt_of_lt_of_le hB3.lt hb95
        have hlt95_10 := Nat.le_trans hE0.size hb95
        replace hE91 := Ext.trans hE91 hE95
        replace hE70 := Ext.trans hE70 hE95
        replace hE69 := Ext.trans hE69 hE95
        replace hB69 := hB69.ext hE95
        replace hO69 := own_ext hO69 hE95
        replace hE44 := Ext.trans hE44 hE95
        replace hE43 := Ext.trans hE43 hE95
        replace hB43 := hB43.ext hE95
        replace hO43 := own_ext hO43 hE95
        replace hE12 := Ext.trans hE12 hE95
        replace hE3 := Ext.trans hE3 hE95
        replace hB3 := hB3.ext hE95
        replace hE0 := Ext.trans hE0 hE95
        refine Seg.storeN rfl rfl rfl rfl hB95 rfl (by first | assumption | exact List.all_eq_true.1 rfl) (fun w96 hW96 hB96 => ?_)
        clear hB95
        replace hE95 := Ext.wr' hE95 hW96 (by omega)
        replace hE91 := Ext.wr' hE91 hW96 (by omega)
        replace hE70 := Ext.wr' hE70 hW96 (by omega)
        replace hE69 := Ext.wr' hE69 hW96 (by omega)
        replace hB69 := hB69.wr hW96 (by omega)
        replace hO69 := own_wr hO69 hW96 (by simp [Value.ownBlock]; omega)
        replace hE44 := Ext.wr' hE44 hW96 (by omega)
        replace hE43 := Ext.wr' hE43 hW96 (by omega)
        replace hB43 := hB43.wr hW96 (by omega)
        replace hO43 := own_wr hO43 hW96 (by simp [Value.ownBlock]; omega)
        replace hE12 := Ext.wr' hE12 hW96 (by omega)
        replace hE3 := Ext.wr' hE3 hW96 (by omega)
        replace hB3 := hB3.wr hW96 (by omega)
        replace hE0 := Ext.wr' hE0 hW96 (by omega)
        refine Seg.step rfl rfl (Yd.assign rfl) (Seg.nil (At.then_ (Cd.seq (Cd.seq (Cd.region (Seg.step rfl rfl (Yd.move rfl) (Seg.step rfl rfl (Yd.neq rfl rfl) ?_)))))))
        refine Seg.nil (At.then_ ?_)
        refine Cd.condk rfl (fun h107 => ?_) (fun h107 => ?_)
        · refine Cd.seq (Cd.region (Seg.step rfl rfl (Yd.move rfl) (Seg.step rfl rfl (Yd.assign rfl) (Seg.nil (At.then_ (Cd.ret (At.then_ret ?_)))))))
          exact At.ret Tryz.results44 (.tmp rfl .nil) ⟨⟨_, rfl, fun h => absurd h (by first | assumption | decide)⟩, hE0⟩
        · refine Cd.skip (At.then_ (Cd.seq (Cd.seq (Cd.region (Seg.step rfl rfl (Yd.fieldAddr rfl rfl) (Seg.step rfl rfl (Yd.loadN rfl rfl rfl (show Row _ (Addr.add ⟨b95, 0, none⟩ 4) (⟨nm2, tg2, ml2, .slice na nm2.length nc, .slice ta tg2.length tc, .slice ma ml2.length mc, ty2, cl2, ttl2, fam2, zone2, pri2, wt2, pt2, raw2, j0, j1, j2, j3, j4, j5, j6, j7, j8, j9, j10, j11, j12, j13, j14, j15, n0, n1, n2, n3, n4⟩ : Rec).adrV from hB96.row.part 4 18)) (Seg.step rfl rfl (Yd.buildT (cs := _ :: _ :: _ :: _ :: _ :: _ :: _ :: _ :: _ :: _ :: _ :: _ :: _ :: _ :: _ :: _ :: _ :: _ :: []) 18 rfl rfl rfl rfl rfl) ?_)))))))
          refine Seg.step rfl rfl (Yd.neqD rfl rfl (by kernel_rfl) (by kernel_rfl) (by kernel_rfl) (by kernel_rfl) (adr_lits (⟨nm2, tg2, ml2, .slice na nm2.length nc, .slice ta tg2.length tc, .slice ma ml2.length mc, ty2, cl2, ttl2, fam2, zone2, pri2, wt2, pt2, raw2, j0, j1, j2, j3, j4, j5, j6, j7, j8, j9, j10, j11, j12, j13, j14, j15, n0, n1, n2, n3, n4⟩ : Rec) hw2) (adr_lits rz rz_wf) (adr_eq (⟨nm2, tg2, ml2, .slice na nm2.length nc, .slice ta tg2.length tc, .slice ma ml2.length mc, ty2, cl2, ttl2, fam2, zone2, pri2, wt2, pt2, raw2, j0, j1, j2, j3, j4, j5, j6, j7, j8, j9, j10, j11, j12, j13, j14, j15, n0, n1, n2, n3, n4⟩ : Rec) rz)) (Seg.step rfl rfl (Yd.move rfl) ?_)
          refine Seg.gsplitp rfl rfl (fun h129 => ?_) (fun h129 => ?_)
          · refine Seg.skip rfl rfl (Seg.skip rfl rfl (Seg.skip rfl rfl (Seg.skip rfl rfl (Seg.step rfl rfl (Yd.pickT rfl rfl) (Seg.step rfl rfl (Yd.move rfl) (Seg.skip rfl rfl (Seg.skip rfl rfl ?_)))))))
            refine Seg.skip rfl rfl (Seg.skip rfl rfl (Seg.step rfl rfl (Yd.pickT rfl rfl) (Seg.step rfl rfl (Yd.move rfl) (Seg.skip rfl rfl (Seg.skip rfl rfl (Seg.skip rfl rfl (Seg.step rfl rfl (Yd.pickT rfl rfl) ?_)))))))
            refine Seg.step rfl rfl (Yd.move rfl) (Seg.skip rfl rfl (Seg.skip rfl rfl (Seg.skip rfl rfl (Seg.step rfl rfl (Yd.pickT rfl rfl) (Seg.step rfl rfl (Yd.move rfl) (Seg.skip rfl rfl (Seg.skip rfl rfl ?_)))))))
            refine Seg.skip rfl rfl (Seg.step rfl rfl (Yd.pickT rfl rfl) (Seg.step rfl rfl (Yd.move rfl) (Seg.skip rfl rfl (Seg.skip rfl rfl (Seg.skip rfl rfl (Seg.skip rfl rfl (Seg.step rfl rfl (Yd.pickT rfl rfl) ?_)))))))
            refine Seg.step rfl rfl (Yd.move rfl) (Seg.skip rfl rfl (Seg.skip rfl rfl (Seg.skip rfl rfl (Seg.step rfl rfl (Yd.pickT rfl rfl) (Seg.nil (At.then_ (Cd.condT rfl ?_)))))))
            refine Cd.seq (Cd.region (Seg.step rfl rfl (Yd.assign rfl) (Seg.nil (At.then_ (Cd.ret (At.then_ret ?_))))))
            exact At.ret Tryz.results44 (.tmp rfl .nil) ⟨⟨_, rfl, fun h => absurd h (by first | assumption | decide)⟩, hE0⟩
          · refine Seg.step rfl rfl (Yd.fieldAddr rfl rfl) (Seg.step rfl rfl (Yd.load1 rfl rfl (hB96.row _ _ rfl)) (Seg.step rfl rfl (Yd.lenS rfl rfl) (Seg.step rfl rfl (Yd.gtr rfl rfl) (Seg.step rfl rfl (Yd.pickF rfl rfl) (Seg.step rfl rfl (Yd.move rfl) ?_)))))
            refine Seg.gsplitp rfl rfl (fun h186 => ?_) (fun h186 => ?_)
            · refine Seg.skip rfl rfl (Seg.skip rfl rfl (Seg.skip rfl rfl (Seg.skip rfl rfl (Seg.step rfl rfl (Yd.pickT rfl rfl) (Seg.step rfl rfl (Yd.move rfl) (Seg.skip rfl rfl (Seg.skip rfl rfl ?_)))))))
              refine Seg.skip rfl rfl (Seg.step rfl rfl (Yd.pickT rfl rfl) (Seg.step rfl rfl (Yd.move rfl) (Seg.skip rfl rfl (Seg.skip rfl rfl (Seg.skip rfl rfl (Seg.step rfl rfl (Yd.pickT rfl rfl) (Seg.step rfl rfl (Yd.move rfl) ?_)))))))
              refine Seg.skip rfl rfl (Seg.skip rfl rfl (Seg.skip rfl rfl (Seg.step rfl rfl (Yd.pickT rfl rfl) (Seg.step rfl rfl (Yd.move rfl) (Seg.skip rfl rfl (Seg.skip rfl rfl (Seg.skip rfl rfl ?_)))))))
              refine Seg.skip rfl rfl (Seg.step rfl rfl (Yd.pickT rfl rfl) (Seg.step rfl rfl (Yd.move rfl) (Seg.skip rfl rfl (Seg.skip rfl rfl (Seg.skip rfl rfl (Seg.step rfl rfl (Yd.pickT rfl rfl) (Seg.nil ?_)))))))
              refine At.then_ (Cd.condT rfl (Cd.seq (Cd.region (Seg.step rfl rfl (Yd.assign rfl) (Seg.nil (At.then_ (Cd.ret ?_)))))))
              refine At.then_ret ?_
              exact At.ret Tryz.results44 (.tmp rfl .nil) ⟨⟨_, rfl, fun h => absurd h (by first | assumption | decide)⟩, hE0⟩
            · refine Seg.step rfl rfl (Yd.fieldAddr rfl rfl) (Seg.step rfl rfl (Yd.load1 rfl rfl (hB96.row _ _ rfl)) (Seg.step rfl rfl (Yd.lenS rfl rfl) (Seg.step rfl rfl (Yd.gtr rfl rfl) (Seg.step rfl rfl (Yd.pickF rfl rfl) (Seg.step rfl rfl (Yd.move rfl) ?_)))))
              refine Seg.gsplitp rfl rfl (fun h237 => ?_) (fun h237 => ?_)
              · refine Seg.skip rfl rfl (Seg.skip rfl rfl (Seg.skip rfl rfl (Seg.step rfl rfl (Yd.pickT rfl rfl) (Seg.step rfl rfl (Yd.move rfl) (Seg.skip rfl rfl (Seg.skip rfl rfl (Seg.skip rfl rfl ?_)))))))
                refine Seg.step rfl rfl (Yd.pickT rfl rfl) (Seg.step rfl rfl (Yd.move rfl) (Seg.skip rfl rfl (Seg.skip rfl rfl (Seg.skip rfl rfl (Seg.step rfl rfl (Yd.pickT rfl rfl) (Seg.step rfl rfl (Yd.move rfl) (Seg.skip rfl rfl ?_)))))))
                refine Seg.skip rfl rfl (Seg.skip rfl rfl (Seg.skip rfl rfl (Seg.step rfl rfl (Yd.pickT rfl rfl) (Seg.step rfl rfl (Yd.move rfl) (Seg.skip rfl rfl (Seg.skip rfl rfl (Seg.skip rfl rfl ?_)))))))
                refine Seg.step rfl rfl (Yd.pickT rfl rfl) (Seg.nil (At.then_ (Cd.condT rfl (Cd.seq (Cd.region (Seg.step rfl rfl (Yd.assign rfl) (Seg.nil ?_)))))))
                refine At.then_ (Cd.ret (At.then_ret ?_))
                exact At.ret Tryz.results44 (.tmp rfl .nil) ⟨⟨_, rfl, fun h => absurd h (by first | assumption | decide)⟩, hE0⟩
              · refine Seg.step rfl rfl (Yd.fieldAddr rfl rfl) (Seg.step rfl rfl (Yd.load1 rfl rfl (hB96.row _ _ rfl)) (Seg.step rfl rfl (Yd.neq rfl rfl) (Seg.step rfl rfl (Yd.pickF rfl rfl) (Seg.step rfl rfl (Yd.move rfl) ?_))))
                refine Seg.gsplitp rfl rfl (fun h281 => ?_) (fun h281 => ?_)
                · refine Seg.skip rfl rfl (Seg.skip rfl rfl (Seg.skip rfl rfl (Seg.step rfl rfl (Yd.pickT rfl rfl) (Seg.step rfl rfl (Yd.move rfl) (Seg.skip rfl rfl (Seg.skip rfl rfl (Seg.skip rfl rfl ?_)))))))
                  refine Seg.step rfl rfl (Yd.pickT rfl rfl) (Seg.step rfl rfl (Yd.move rfl) (Seg.skip rfl rfl (Seg.skip rfl rfl (Seg.skip rfl rfl (Seg.skip rfl rfl (Seg.step rfl rfl (Yd.pickT rfl rfl) (Seg.step rfl rfl (Yd.move rfl) ?_)))))))
                  refine Seg.skip rfl rfl (Seg.skip rfl rfl (Seg.skip rfl rfl (Seg.step rfl rfl (Yd.pickT rfl rfl) (Seg.nil (At.then_ (Cd.condT rfl (Cd.seq ?_)))))))
                  refine Cd.region (Seg.step rfl rfl (Yd.assign rfl) (Seg.nil (At.then_ (Cd.ret (At.then_ret ?_)))))
                  exact At.ret Tryz.results44 (.tmp rfl .nil) ⟨⟨_, rfl, fun h => absurd h (by first | assumption | decide)⟩, hE0⟩
                · refine Seg.step rfl rfl (Yd.fieldAddr rfl rfl) (Seg.step rfl rfl (Yd.load1 rfl rfl (hB96.row _ _ rfl)) (Seg.step rfl rfl (Yd.neq rfl rfl) (Seg.step rfl rfl (Yd.pickF rfl rfl) (Seg.step rfl rfl (Yd.move rfl) ?_))))
                  refine Seg.gsplitp rfl rfl (fun h320 => ?_) (fun h320 => ?_)
                  · refine Seg.skip rfl rfl (Seg.skip rfl rfl (Seg.skip rfl rfl (Seg.step rfl rfl (Yd.pickT rfl rfl) (Seg.step rfl rfl (Yd.move rfl) (Seg.skip rfl rfl (Seg.skip rfl rfl (Seg.skip rfl rfl ?_)))))))
                    refine Seg.skip rfl rfl (Seg.step rfl rfl (Yd.pickT rfl rfl) (Seg.step rfl rfl (Yd.move rfl) (Seg.skip rfl rfl (Seg.skip rfl rfl (Seg.skip rfl rfl (Seg.step rfl rfl (Yd.pickT rfl rfl) (Seg.nil ?_)))))))
                    refine At.then_ (Cd.condT rfl (Cd.seq (Cd.region (Seg.step rfl rfl (Yd.assign rfl) (Seg.nil (At.then_ (Cd.ret ?_)))))))
                    refine At.then_ret ?_
                    exact At.ret Tryz.results44 (.tmp rfl .nil) ⟨⟨_, rfl, fun h => absurd h (by first | assumption | decide)⟩, hE0⟩
                  · refine Seg.step rfl rfl (Yd.fieldAddr rfl rfl) (Seg.step rfl rfl (Yd.load1 rfl rfl (hB96.row _ _ rfl)) (Seg.step rfl rfl (Yd.neq rfl rfl) (Seg.step rfl rfl (Yd.pickF rfl rfl) (Seg.step rfl rfl (Yd.move rfl) ?_))))
                    refine Seg.gsplitp rfl rfl (fun h354 => ?_) (fun h354 => ?_)
                    · refine Seg.skip rfl rfl (Seg.skip rfl rfl (Seg.skip rfl rfl (Seg.skip rfl rfl (Seg.step rfl rfl (Yd.pickT rfl rfl) (Seg.step rfl rfl (Yd.move rfl) (Seg.skip rfl rfl (Seg.skip rfl rfl ?_)))))))
                      refine Seg.skip rfl rfl (Seg.step rfl rfl (Yd.pickT rfl rfl) (Seg.nil (At.then_ (Cd.condT rfl (Cd.seq (Cd.region (Seg.step rfl rfl (Yd.assign rfl) ?_)))))))
                      refine Seg.nil (At.then_ (Cd.ret (At.then_ret ?_)))
                      exact At.ret Tryz.results44 (.tmp rfl .nil) ⟨⟨_, rfl, fun h => absurd h (by first | assumption | decide)⟩, hE0⟩
                    · refine Seg.step rfl rfl (Yd.fieldAddr rfl rfl) (Seg.step rfl rfl (Yd.loadN rfl rfl rfl (show Row _ (Addr.add ⟨b95, 0, none⟩ 27) (⟨nm2, tg2, ml2, .slice na nm2.length nc, .slice ta tg2.length tc, .slice ma ml2.length mc, ty2, cl2, ttl2, fam2, zone2, pri2, wt2, pt2, raw2, j0, j1, j2, j3, j4, j5, j6, j7, j8, j9, j10, j11, j12, j13, j14, j15, n0, n1, n2, n3, n4⟩ : Rec).numV from hB96.row.part 27 5)) (Seg.step rfl rfl (Yd.buildArrT (cs := _ :: _ :: _ :: _ :: _ :: []) 5 rfl rfl rfl rfl rfl) (Seg.step rfl rfl (Yd.neqD rfl rfl (by kernel_rfl) (by kernel_rfl) (by kernel_rfl) (by kernel_rfl) (num_lits (⟨nm2, tg2, ml2, .slice na nm2.length nc, .slice ta tg2.length tc, .slice ma ml2.length mc, ty2, cl2, ttl2, fam2, zone2, pri2, wt2, pt2, raw2, j0, j1, j2, j3, j4, j5, j6, j7, j8, j9, j10, j11, j12, j13, j14, j15, n0, n1, n2, n3, n4⟩ : Rec) hw2) (num_lits rz rz_wf) (num_eq (⟨nm2, tg2, ml2, .slice na nm2.length nc, .slice ta tg2.length tc, .slice ma ml2.length mc, ty2, cl2, ttl2, fam2, zone2, pri2, wt2, pt2, raw2, j0, j1, j2, j3, j4, j5, j6, j7, j8, j9, j10, j11, j12, j13, j14, j15, n0, n1, n2, n3, n4⟩ : Rec) rz)) (Seg.step rfl rfl (Yd.pickF rfl rfl) (Seg.step rfl rfl (Yd.move rfl) ?_)))))
                      refine Seg.gsplitp rfl rfl (fun h384 => ?_) (fun h384 => ?_)
                      · refine Seg.skip rfl rfl (Seg.skip rfl rfl (Seg.skip rfl rfl (Seg.step rfl rfl (Yd.pickT rfl rfl) (Seg.nil (At.then_ (Cd.condT rfl (Cd.seq ?_)))))))
                        refine Cd.region (Seg.step rfl rfl (Yd.assign rfl) (Seg.nil (At.then_ (Cd.ret (At.then_ret ?_)))))
                        exact At.ret Tryz.results44 (.tmp rfl .nil) ⟨⟨_, rfl, fun h => absurd h (by first | assumption | decide)⟩, hE0⟩
                      · refine Seg.step rfl rfl (Yd.fieldAddr rfl rfl) (Seg.step rfl rfl (Yd.load1 rfl rfl (hB96.row _ _ rfl)) (Seg.step rfl rfl (Yd.neqS rfl rfl) (Seg.step rfl rfl (Yd.pickF rfl rfl) (Seg.nil (At.then_ ?_)))))
                        refine Cd.condk rfl (fun h408 => ?_) (fun h408 => ?_)
                        · refine Cd.seq (Cd.region (Seg.step rfl rfl (Yd.assign rfl) (Seg.nil (At.then_ (Cd.ret (At.then_ret ?_))))))
                          exact At.ret Tryz.results44 (.tmp rfl .nil) ⟨⟨_, rfl, fun h => absurd h (by first | assumption | decide)⟩, hE0⟩
                        · refine Cd.skip (At.then_ (Cd.seq (Cd.region (Seg.step rfl rfl (Yd.assign rfl) (Seg.nil (At.then_ (Cd.ret ?_)))))))
                          exact At.ret Tryz.results44 (.tmp rfl .nil) ⟨⟨_, rfl, fun _ => ok_of h22 h47 h75 (hd2 (Classical.not_not.1 h107) (bare_of h129 h186 h237 h281 h320 h354 h384 h408))⟩, hE0⟩
end Go.Proofs.YtahpiaaffeiadaaGreat
