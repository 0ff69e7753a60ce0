/- Is a message small enough? wayfinderlaw14.Small. -/
import Derived.Test.YtahpiaaffeiadaaGreatZmc
namespace Go.Proofs.YtahpiaaffeiadaaGreat
open Go Go.RowKit
/-- No text of the message is longer than a machine's memory, and its integers are such as their types have. -/
def MgHeld (M : Mg) : Prop := M.qs.length ≤ 140737488351232 ∧ (∀ q ∈ M.qs, Held q.n) ∧ ∀ x ∈ M.ls, x.2.length ≤ 140737488351232 ∧ ∀ r ∈ x.2, HeldR r ∧ WfR r
set_option maxHeartbeats 800000 in
theorem small14_any (M : Mg) (w : World) (hM : MgAt w M) (hh : MgHeld M) : Ret Tryz.prog 5 #[.agg M.cells.toArray] w fun v w' => (∃ e, v = .int .i64 e ∧ (e = 0 → MgFit M)) ∧ Ext w w' := by
  have hE0 := Ext.refl w
  obtain ⟨h, vq, qs, va, an, vu, au, ve, ex⟩ := M
  have hM1 := hM
  obtain ⟨⟨⟨ao, c, e0, hl0, hr0, hz0⟩, hnm⟩, hl⟩ := hM1
  obtain ⟨⟨la, c1, e1, _, ra, za⟩, na⟩ := hl (va, an) List.mem_cons_self
  obtain ⟨⟨lb, c2, e2, _, ru, zu⟩, nu⟩ := hl (vu, au) (List.mem_cons_of_mem _ List.mem_cons_self)
  obtain ⟨⟨lx, c3, e3, _, rx, zx⟩, nx⟩ := hl (ve, ex) (List.mem_cons_of_mem _ (List.mem_cons_of_mem _ List.mem_cons_self))
  simp only at e0 e1 e2 e3 hl0 hz0 hnm ra za na ru zu nu rx zx nx
  subst e0
  subst e1
  subst e2
  subst e3
  clear hl hM
  have kN : Keep (∀ q ∈ qs, Held q.n) := hh.2.1
  have kA : Keep (∀ r ∈ an, HeldR r ∧ WfR r) := (hh.2.2 _ List.mem_cons_self).2
  have kU : Keep (∀ r ∈ au, HeldR r ∧ WfR r) := (hh.2.2 _ (List.mem_cons_of_mem _ List.mem_cons_self)).2
  have kX : Keep (∀ r ∈ ex, HeldR r ∧ WfR r) := (hh.2.2 _ (List.mem_cons_of_mem _ (List.mem_cons_of_mem _ List.mem_cons_self))).2
  have hno : ∀ b : Int, b = 1 → b = 0 → MgFit (⟨h, .slice ao qs.length c, qs, .slice la an.length c1, an, .slice lb au.length c2, au, .slice lx ex.length c3, ex⟩ : Mg) := fun b h1 h0 => by omega
  refine Ret.body Tryz.func5 rfl Tryz.ntmps5 rfl ?_
  by_cases hs : qs.length ≤ 20 ∧ an.length ≤ 30 ∧ au.length ≤ 20 ∧ ex.length ≤ 20
  · obtain ⟨s1, s2, s3, s4⟩ := hs
    refine Cd.seq (Cd.region (Seg.box rfl rfl rfl (fun w3 b3 hE3 hB3 hb3 => ?_)))
    have hlt3_0 := Nat.le_trans hE0.size hb3
    replace hE0 := Ext.trans hE0 hE3
    refine Seg.step rfl rfl (Yd.assign rfl) (Seg.nil (At.then_ (Cd.seq (Cd.seq (Cd.region (Seg.step rfl rfl (Yd.fieldAddr rfl rfl) (Seg.step rfl rfl (Yd.load1 rfl rfl (hB3.row _ _ rfl)) ?_)))))))
    refine Seg.step rfl rfl (Yd.lenS rfl rfl) (Seg.step rfl rfl (Yd.gtr rfl rfl) (Seg.step rfl rfl (Yd.move rfl) ?_))
    refine Seg.gsplitp rfl rfl (fun h15 => ?_) (fun h15 => ?_)
    · exfalso; omega
    refine Seg.step rfl rfl (Yd.fieldAddr rfl rfl) (Seg.step rfl rfl (Yd.load1 rfl rfl (hB3.row _ _ rfl)) (Seg.step rfl rfl (Yd.lenS rfl rfl) (Seg.step rfl rfl (Yd.gtr rfl rfl) (Seg.step rfl rfl (Yd.pickF rfl rfl) (Seg.step rfl rfl (Yd.move rfl) ?_)))))
    refine Seg.gsplitp rfl rfl (fun h23 => ?_) (fun h23 => ?_)
    · exfalso; omega
    refine Seg.step rfl rfl (Yd.fieldAddr rfl rfl) (Seg.step rfl rfl (Yd.load1 rfl rfl (hB3.row _ _ rfl)) (Seg.step rfl rfl (Yd.lenS rfl rfl) (Seg.step rfl rfl (Yd.gtr rfl rfl) (Seg.step rfl rfl (Yd.pickF rfl rfl) (Seg.step rfl rfl (Yd.move rfl) ?_)))))
    refine Seg.gsplitp rfl rfl (fun h31 => ?_) (fun h31 => ?_)
    · exfalso; omega
    refine Seg.step rfl rfl (Yd.fieldAddr rfl rfl) (Seg.step rfl rfl (Yd.load1 rfl rfl (hB3.row _ _ rfl)) (Seg.step rfl rfl (Yd.lenS rfl rfl) (Seg.step rfl rfl (Yd.gtr rfl rfl) (Seg.step rfl rfl (Yd.pickF rfl rfl) (Seg.nil (At.then_ ?_))))))
    refine Cd.condk rfl (fun h40 => ?_) (fun h40 => ?_)
    · exfalso; omega
    refine Cd.skip (At.then_ (Cd.seq (Cd.seq (Cd.region (Seg.step rfl rfl (Yd.assign rfl) (Seg.nil (At.then_ ?_)))))))
    refine Cd.block (Cd.loop (σ := Nat) (fun t => [(1, .pointer (some ⟨b3, 0, none⟩)), (3, .int .i64 (t : Int))]) (fun t w' => (t ≤ qs.length ∧ ∀ q ∈ qs.take t, Fit q.n) ∧ Bx w' b3 ((⟨h, .slice ao qs.length c, qs, .slice la an.length c1, an, .slice lb au.length c2, au, .slice lx ex.length c3, ex⟩ : Mg)).cells ∧ Ext w w') (fun t => qs.length - t) 0 (.cons rfl (.cons rfl (.nil _))) ⟨⟨Nat.zero_le _, fun q hq => by cases hq⟩, by assumption, by assumption⟩ ?_)
    clear hB3 hE0
    rintro i w1 ⟨⟨hi, hT⟩, hB1, hE1⟩
    by_cases hlt : i < qs.length
    · obtain ⟨a, rfl⟩ : ∃ a, ao = some a := by
        cases ao with
        | none => have := hz0 rfl; omega
        | some a => exact ⟨a, rfl⟩
      have hr0 := hr0 a rfl
      obtain ⟨q, hqj⟩ : ∃ q, qs[i]? = some q := ⟨_, List.getElem?_eq_getElem hlt⟩
      have hqm := List.mem_of_getElem? hqj
      have hNq := hnm q hqm
      have hrow : Row w ((a.add (i * 3)).add 0) [q.v] := by
        have h1 := hr0.part (i * 3) 3
        rw [qm_row hqj] at h1
        exact h1.part 0 1
      have hEn : Keep (Ext w w1) := hE1
      refine Cd.seq (Cd.seq (Cd.region (Seg.step rfl rfl (Yd.move rfl) (Seg.step rfl rfl (Yd.fieldAddr rfl rfl) (Seg.step rfl rfl (Yd.load1 rfl rfl (hB1.row _ _ rfl)) (Seg.step rfl rfl (Yd.lenS rfl rfl) (Seg.step rfl rfl (Yd.lss rfl rfl) ?_)))))))
      refine Seg.nil (At.then_ ?_)
      refine Cd.condk rfl (fun h51 => ?_) (fun h51 => ?_)
      · refine Cd.skip (At.then_ (Cd.seq (Cd.block (Cd.seq (Cd.region (Seg.step rfl rfl (Yd.fieldAddr rfl rfl) (Seg.step rfl rfl (Yd.load1 rfl rfl (hB1.row _ _ rfl)) ?_)))))))
        refine Seg.step rfl rfl (Yd.move rfl) (Seg.step rfl rfl (Yd.indexAddr rfl rfl rfl (NatOf.cast _) (by omega)) (Seg.step rfl rfl (Yd.fieldAddr rfl rfl) (Seg.step rfl rfl (Yd.load1 rfl rfl ((hrow.ext hE1) 0 _ rfl)) ?_)))
        (refine Seg.call rfl rfl (own_of rfl) rfl (few_any q.n q.v _ (Sl.ext hNq (by assumption)) (kN q hqm)) ?_; rintro _ w65 ⟨⟨bq, rfl, kq⟩, hE65⟩)
        replace hE1 := Ext.trans hE1 hE65
        replace hB1 := hB1.ext hE65
        refine Seg.step rfl rfl (Yd.not rfl) (Seg.nil (At.then_ ?_))
        refine Cd.condkb rfl (fun h69 => ?_) (fun h69 => ?_)
        · refine Cd.seq (Cd.region (Seg.step rfl rfl (Yd.assign rfl) (Seg.nil (At.then_ (Cd.ret (At.blk_ret (At.then_ret ?_)))))))
          refine At.then_ret (At.blk_ret (At.then_ret ?_))
          exact At.ret Tryz.results5 (.tmp rfl .nil) ⟨⟨1, rfl, hno 1 rfl⟩, by assumption⟩
        · refine Cd.skip (At.blk (At.then_ (Cd.region (Seg.step rfl rfl (Yd.move rfl) (Seg.step rfl rfl (Yd.addI rfl rfl (by omega)) (Seg.step rfl rfl (Yd.assign rfl) (Seg.nil ?_)))))))
          exact At.round (i + 1) (.cons rfl (.cons rfl (.nil _))) ⟨⟨hlt, in_take hqj hT (kq (by simpa using (by assumption : (!bq) = false)))⟩, by assumption, by assumption⟩ (Nat.sub_lt_sub_left hlt (Nat.lt_succ_self i))
      · exfalso; omega
    · obtain rfl : i = qs.length := by omega
      rw [List.take_length] at hT
      refine Cd.seq (Cd.seq (Cd.region (Seg.step rfl rfl (Yd.move rfl) (Seg.step rfl rfl (Yd.fieldAddr rfl rfl) (Seg.step rfl rfl (Yd.load1 rfl rfl (hB1.row _ _ rfl)) (Seg.step rfl rfl (Yd.lenS rfl rfl) (Seg.step rfl rfl (Yd.lss rfl rfl) ?_)))))))
      refine Seg.nil (At.then_ ?_)
      refine Cd.condk rfl (fun h51 => ?_) (fun h51 => ?_)
      · exfalso; omega
      refine Cd.exit (At.then_exit (At.then_exit (At.blk_same (At.then_ (Cd.seq (Cd.seq (Cd.region ?_)))))))
      refine Seg.step rfl rfl (Yd.assign rfl) (Seg.nil (At.then_ (Cd.block (Cd.loop (σ := Nat) (fun t => [(1, .pointer (some ⟨b3, 0, none⟩)), (4, .int .i64 (t : Int))]) (fun t w' => (t ≤ an.length ∧ ∀ r ∈ an.take t, FitR r) ∧ Bx w' b3 ((⟨h, .slice ao qs.length c, qs, .slice la an.length c1, an, .slice lb au.length c2, au, .slice lx ex.length c3, ex⟩ : Mg)).cells ∧ Ext w w') (fun t => an.length - t) 0 (.cons rfl (.cons rfl (.nil _))) ⟨⟨Nat.zero_le _, fun q hq => by cases hq⟩, by assumption, by assumption⟩ ?_))))
      clear hB1 hE1
      rintro i w1 ⟨⟨hi, hT1⟩, hB1, hE1⟩
      by_cases hlt : i < an.length
      · obtain ⟨a, rfl⟩ : ∃ a, la = some a := by
          cases la with
          | none => have := za rfl; omega
          | some a => exact ⟨a, rfl⟩
        obtain ⟨r, hrk⟩ : ∃ r, an[i]? = some r := ⟨_, List.getElem?_eq_getElem hlt⟩
        have hrm := List.mem_of_getElem? hrk
        have hrow := recs_part (ra a rfl) hrk
        have hone := rec_one (na r hrm)
        refine Cd.seq (Cd.seq (Cd.region (Seg.step rfl rfl (Yd.move rfl) (Seg.step rfl rfl (Yd.fieldAddr rfl rfl) (Seg.step rfl rfl (Yd.load1 rfl rfl (hB1.row _ _ rfl)) (Seg.step rfl rfl (Yd.lenS rfl rfl) (Seg.step rfl rfl (Yd.lss rfl rfl) ?_)))))))
        refine Seg.nil (At.then_ ?_)
        refine Cd.condk rfl (fun h62 => ?_) (fun h62 => ?_)
        · refine Cd.skip (At.then_ (Cd.seq (Cd.block (Cd.seq (Cd.region (Seg.step rfl rfl (Yd.fieldAddr rfl rfl) (Seg.step rfl rfl (Yd.load1 rfl rfl (hB1.row _ _ rfl)) ?_)))))))
          refine Seg.step rfl rfl (Yd.move rfl) (Seg.step rfl rfl (Yd.indexAddr rfl rfl rfl (NatOf.cast _) (by omega)) (Seg.step rfl rfl (Yd.loadN rfl rfl rfl (hrow.ext hE1)) ?_))
          (refine Seg.call rfl rfl (own_of rfl) rfl (small13 r _ (RecAt.ext (na r hrm) (by assumption)) (kA r hrm).1) ?_; rintro _ w75 ⟨⟨bq, rfl, kq⟩, hE75⟩)
          replace hE1 := Ext.trans hE1 hE75
          replace hB1 := hB1.ext hE75
          refine Seg.step rfl rfl (Yd.not rfl) (Seg.nil (At.then_ ?_))
          refine Cd.condkb rfl (fun h79 => ?_) (fun h79 => ?_)
          · refine Cd.seq (Cd.region (Seg.step rfl rfl (Yd.assign rfl) (Seg.nil (At.then_ (Cd.ret (At.blk_ret (At.then_ret ?_)))))))
            refine At.then_ret (At.blk_ret (At.then_ret ?_))
            exact At.ret Tryz.results5 (.tmp rfl .nil) ⟨⟨1, rfl, hno 1 rfl⟩, by assumption⟩
          · refine Cd.skip (At.blk (At.then_ (Cd.region (Seg.step rfl rfl (Yd.move rfl) (Seg.step rfl rfl (Yd.addI rfl rfl (by omega)) (Seg.step rfl rfl (Yd.assign rfl) (Seg.nil ?_)))))))
            exact At.round (i + 1) (.cons rfl (.cons rfl (.nil _))) ⟨⟨hlt, in_take hrk hT1 (kq (by simpa using (by assumption : (!bq) = false)))⟩, by assumption, by assumption⟩ (Nat.sub_lt_sub_left hlt (Nat.lt_succ_self i))
        · exfalso; omega
      · obtain rfl : i = an.length := by omega
        rw [List.take_length] at hT1
        refine Cd.seq (Cd.seq (Cd.region (Seg.step rfl rfl (Yd.move rfl) (Seg.step rfl rfl (Yd.fieldAddr rfl rfl) (Seg.step rfl rfl (Yd.load1 rfl rfl (hB1.row _ _ rfl)) (Seg.step rfl rfl (Yd.lenS rfl rfl) (Seg.step rfl rfl (Yd.lss rfl rfl) ?_)))))))
        refine Seg.nil (At.then_ ?_)
        refine Cd.condk rfl (fun h62 => ?_) (fun h62 => ?_)
        · exfalso; omega
        refine Cd.exit (At.then_exit (At.then_exit (At.blk_same (At.then_ (Cd.seq (Cd.seq (Cd.region ?_)))))))
        refine Seg.step rfl rfl (Yd.assign rfl) (Seg.nil (At.then_ (Cd.block (Cd.loop (σ := Nat) (fun t => [(1, .pointer (some ⟨b3, 0, none⟩)), (5, .int .i64 (t : Int))]) (fun t w' => (t ≤ au.length ∧ ∀ r ∈ au.take t, FitR r) ∧ Bx w' b3 ((⟨h, .slice ao qs.length c, qs, .slice la an.length c1, an, .slice lb au.length c2, au, .slice lx ex.length c3, ex⟩ : Mg)).cells ∧ Ext w w') (fun t => au.length - t) 0 (.cons rfl (.cons rfl (.nil _))) ⟨⟨Nat.zero_le _, fun q hq => by cases hq⟩, by assumption, by assumption⟩ ?_))))
        clear hB1 hE1
        rintro i w1 ⟨⟨hi, hT2⟩, hB1, hE1⟩
        by_cases hlt : i < au.length
        · obtain ⟨a, rfl⟩ : ∃ a, lb = some a := by
            cases lb with
            | none => have := zu rfl; omega
            | some a => exact ⟨a, rfl⟩
          obtain ⟨r, hrk⟩ : ∃ r, au[i]? = some r := ⟨_, List.getElem?_eq_getElem hlt⟩
          have hrm := List.mem_of_getElem? hrk
          have hrow := recs_part (ru a rfl) hrk
          have hone := rec_one (nu r hrm)
          refine Cd.seq (Cd.seq (Cd.region (Seg.step rfl rfl (Yd.move rfl) (Seg.step rfl rfl (Yd.fieldAddr rfl rfl) (Seg.step rfl rfl (Yd.load1 rfl rfl (hB1.row _ _ rfl)) (Seg.step rfl rfl (Yd.lenS rfl rfl) (Seg.step rfl rfl (Yd.lss rfl rfl) ?_)))))))
          refine Seg.nil (At.then_ ?_)
          refine Cd.condk rfl (fun h73 => ?_) (fun h73 => ?_)
          · refine Cd.skip (At.then_ (Cd.seq (Cd.block (Cd.seq (Cd.region (Seg.step rfl rfl (Yd.fieldAddr rfl rfl) (Seg.step rfl rfl (Yd.load1 rfl rfl (hB1.row _ _ rfl)) ?_)))))))
            refine Seg.step rfl rfl (Yd.move rfl) (Seg.step rfl rfl (Yd.indexAddr rfl rfl rfl (NatOf.cast _) (by omega)) (Seg.step rfl rfl (Yd.loadN rfl rfl rfl (hrow.ext hE1)) ?_))
            (refine Seg.call rfl rfl (own_of rfl) rfl (small13 r _ (RecAt.ext (nu r hrm) (by assumption)) (kU r hrm).1) ?_; rintro _ w86 ⟨⟨bq, rfl, kq⟩, hE86⟩)
            replace hE1 := Ext.trans hE1 hE86
            replace hB1 := hB1.ext hE86
            refine Seg.step rfl rfl (Yd.not rfl) (Seg.nil (At.then_ ?_))
            refine Cd.condkb rfl (fun h90 => ?_) (fun h90 => ?_)
            · refine Cd.seq (Cd.region (Seg.step rfl rfl (Yd.assign rfl) (Seg.nil (At.then_ (Cd.ret (At.blk_ret (At.then_ret ?_)))))))
              refine At.then_ret (At.blk_ret (At.then_ret ?_))
              exact At.ret Tryz.results5 (.tmp rfl .nil) ⟨⟨1, rfl, hno 1 rfl⟩, by assumption⟩
            · refine Cd.skip (At.blk (At.then_ (Cd.region (Seg.step rfl rfl (Yd.move rfl) (Seg.step rfl rfl (Yd.addI rfl rfl (by omega)) (Seg.step rfl rfl (Yd.assign rfl) (Seg.nil ?_)))))))
              exact At.round (i + 1) (.cons rfl (.cons rfl (.nil _))) ⟨⟨hlt, in_take hrk hT2 (kq (by simpa using (by assumption : (!bq) = false)))⟩, by assumption, by assumption⟩ (Nat.sub_lt_sub_left hlt (Nat.lt_succ_self i))
          · exfalso; omega
        · obtain rfl : i = au.length := by omega
          rw [List.take_length] at hT2
          refine Cd.seq (Cd.seq (Cd.region (Seg.step rfl rfl (Yd.move rfl) (Seg.step rfl rfl (Yd.fieldAddr rfl rfl) (Seg.step rfl rfl (Yd.load1 rfl rfl (hB1.row _ _ rfl)) (Seg.step rfl rfl (Yd.lenS rfl rfl) (Seg.step rfl rfl (Yd.lss rfl rfl) ?_)))))))
          refine Seg.nil (At.then_ ?_)
          refine Cd.condk rfl (fun h73 => ?_) (fun h73 => ?_)
          · exfalso; omega
          refine Cd.exit (At.then_exit (At.then_exit (At.blk_same (At.then_ (Cd.seq (Cd.seq (Cd.region ?_)))))))
          refine Seg.step rfl rfl (Yd.assign rfl) (Seg.nil (At.then_ (Cd.block (Cd.loop (σ := Nat) (fun t => [(1, .pointer (some ⟨b3, 0, none⟩)), (6, .int .i64 (t : Int))]) (fun t w' => (t ≤ ex.length ∧ ∀ r ∈ ex.take t, FitR r) ∧ Bx w' b3 ((⟨h, .slice ao qs.length c, qs, .slice la an.length c1, an, .slice lb au.length c2, au, .slice lx ex.length c3, ex⟩ : Mg)).cells ∧ Ext w w') (fun t => ex.length - t) 0 (.cons rfl (.cons rfl (.nil _))) ⟨⟨Nat.zero_le _, fun q hq => by cases hq⟩, by assumption, by assumption⟩ ?_))))
          clear hB1 hE1
          rintro i w1 ⟨⟨hi, hT3⟩, hB1, hE1⟩
          by_cases hlt : i < ex.length
          · obtain ⟨a, rfl⟩ : ∃ a, lx = some a := by
              cases lx with
              | none => have := zx rfl; omega
              | some a => exact ⟨a, rfl⟩
            obtain ⟨r, hrk⟩ : ∃ r, ex[i]? = some r := ⟨_, List.getElem?_eq_getElem hlt⟩
            have hrm := List.mem_of_getElem? hrk
            have hrow := recs_part (rx a rfl) hrk
            have hone := rec_one (nx r hrm)
            refine Cd.seq (Cd.seq (Cd.region (Seg.step rfl rfl (Yd.move rfl) (Seg.step rfl rfl (Yd.fieldAddr rfl rfl) (Seg.step rfl rfl (Yd.load1 rfl rfl (hB1.row _ _ rfl)) (Seg.step rfl rfl (Yd.lenS rfl rfl) (Seg.step rfl rfl (Yd.lss rfl rfl) ?_)))))))
            refine Seg.nil (At.then_ ?_)
            refine Cd.condk rfl (fun h84 => ?_) (fun h84 => ?_)
            · refine Cd.skip (At.then_ (Cd.seq (Cd.block (Cd.seq (Cd.region (Seg.step rfl rfl (Yd.fieldAddr rfl rfl) (Seg.step rfl rfl (Yd.load1 rfl rfl (hB1.row _ _ rfl)) ?_)))))))
              refine Seg.step rfl rfl (Yd.move rfl) (Seg.step rfl rfl (Yd.indexAddr rfl rfl rfl (NatOf.cast _) (by omega)) (Seg.step rfl rfl (Yd.loadN rfl rfl rfl (hrow.ext hE1)) ?_))
              (refine Seg.call rfl rfl (own_of rfl) rfl (small13 r _ (RecAt.ext (nx r hrm) (by assumption)) (kX r hrm).1) ?_; rintro _ w97 ⟨⟨bq, rfl, kq⟩, hE97⟩)
              replace hE1 := Ext.trans hE1 hE97
              replace hB1 := hB1.ext hE97
              refine Seg.step rfl rfl (Yd.not rfl) (Seg.nil (At.then_ ?_))
              refine Cd.condkb rfl (fun h101 => ?_) (fun h101 => ?_)
              · refine Cd.seq (Cd.region (Seg.step rfl rfl (Yd.assign rfl) (Seg.nil (At.then_ (Cd.ret (At.blk_ret (At.then_ret ?_)))))))
                refine At.then_ret (At.blk_ret (At.then_ret ?_))
                exact At.ret Tryz.results5 (.tmp rfl .nil) ⟨⟨1, rfl, hno 1 rfl⟩, by assumption⟩
              · refine Cd.skip (At.blk (At.then_ (Cd.region (Seg.step rfl rfl (Yd.move rfl) (Seg.step rfl rfl (Yd.addI rfl rfl (by omega)) (Seg.step rfl rfl (Yd.assign rfl) (Seg.nil ?_)))))))
                exact At.round (i + 1) (.cons rfl (.cons rfl (.nil _))) ⟨⟨hlt, in_take hrk hT3 (kq (by simpa using (by assumption : (!bq) = false)))⟩, by assumption, by assumption⟩ (Nat.sub_lt_sub_left hlt (Nat.lt_succ_self i))
            · exfalso; omega
          · obtain rfl : i = ex.length := by omega
            rw [List.take_length] at hT3
            have hfit : MgFit (⟨h, .slice ao qs.length c, qs, .slice la an.length c1, an, .slice lb au.length c2, au, .slice lx ex.length c3, ex⟩ : Mg) := ⟨s1, hT, fun x hx => by
              rcases List.mem_cons.1 hx with rfl | hx
              · exact ⟨s2, fun r hr => ⟨hT1 r hr, ((show ∀ r ∈ an, _ from kA) r hr).2⟩⟩
              · rcases List.mem_cons.1 hx with rfl | hx
                · exact ⟨by show au.length ≤ 30; omega, fun r hr => ⟨hT2 r hr, ((show ∀ r ∈ au, _ from kU) r hr).2⟩⟩
                · rw [List.mem_singleton] at hx
                  subst hx
                  exact ⟨by show ex.length ≤ 30; omega, fun r hr => ⟨hT3 r hr, ((show ∀ r ∈ ex, _ from kX) r hr).2⟩⟩⟩
            refine Cd.seq (Cd.seq (Cd.region (Seg.step rfl rfl (Yd.move rfl) (Seg.step rfl rfl (Yd.fieldAddr rfl rfl) (Seg.step rfl rfl (Yd.load1 rfl rfl (hB1.row _ _ rfl)) (Seg.step rfl rfl (Yd.lenS rfl rfl) (Seg.step rfl rfl (Yd.lss rfl rfl) ?_)))))))
            refine Seg.nil (At.then_ ?_)
            refine Cd.condk rfl (fun h84 => ?_) (fun h84 => ?_)
            · exfalso; omega
            · refine Cd.exit (At.then_exit (At.then_exit (At.blk_same (At.then_ (Cd.seq (Cd.region (Seg.step rfl rfl (Yd.assign rfl) ?_)))))))
              refine Seg.nil (At.then_ (Cd.ret ?_))
              exact At.ret Tryz.results5 (.tmp rfl .nil) ⟨⟨0, rfl, fun _ => hfit⟩, by assumption⟩
  · refine Cd.seq (Cd.region (Seg.box rfl rfl rfl (fun w3 b3 hE3 hB3 hb3 => ?_)))
    have hlt3_0 := Nat.le_trans hE0.size hb3
    replace hE0 := Ext.trans hE0 hE3
    refine Seg.step rfl rfl (Yd.assign rfl) (Seg.nil (At.then_ (Cd.seq (Cd.seq (Cd.region (Seg.step rfl rfl (Yd.fieldAddr rfl rfl) (Seg.step rfl rfl (Yd.load1 rfl rfl (hB3.row _ _ rfl)) ?_)))))))
    refine Seg.step rfl rfl (Yd.lenS rfl rfl) (Seg.step rfl rfl (Yd.gtr rfl rfl) (Seg.step rfl rfl (Yd.move rfl) ?_))
    refine Seg.gsplitp rfl rfl (fun h15 => ?_) (fun h15 => ?_)
    · refine Seg.skip rfl rfl (Seg.skip rfl rfl (Seg.skip rfl rfl (Seg.skip rfl rfl (Seg.step rfl rfl (Yd.pickT rfl rfl) (Seg.step rfl rfl (Yd.move rfl) (Seg.skip rfl rfl (Seg.skip rfl rfl ?_)))))))
      refine Seg.skip rfl rfl (Seg.skip rfl rfl (Seg.step rfl rfl (Yd.pickT rfl rfl) (Seg.step rfl rfl (Yd.move rfl) (Seg.skip rfl rfl (Seg.skip rfl rfl (Seg.skip rfl rfl (Seg.skip rfl rfl ?_)))))))
      refine Seg.step rfl rfl (Yd.pickT rfl rfl) (Seg.nil (At.then_ (Cd.condT rfl (Cd.seq (Cd.region (Seg.step rfl rfl (Yd.assign rfl) (Seg.nil ?_)))))))
      refine At.then_ (Cd.ret (At.then_ret ?_))
      exact At.ret Tryz.results5 (.tmp rfl .nil) ⟨⟨1, rfl, hno 1 rfl⟩, hE0⟩
    · refine Seg.step rfl rfl (Yd.fieldAddr rfl rfl) (Seg.step rfl rfl (Yd.load1 rfl rfl (hB3.row _ _ rfl)) (Seg.step rfl rfl (Yd.lenS rfl rfl) (Seg.step rfl rfl (Yd.gtr rfl rfl) (Seg.step rfl rfl (Yd.pickF rfl rfl) (Seg.step rfl rfl (Yd.move rfl) ?_)))))
      refine Seg.gsplitp rfl rfl (fun h52 => ?_) (fun h52 => ?_)
      · refine Seg.skip rfl rfl (Seg.skip rfl rfl (Seg.skip rfl rfl (Seg.skip rfl rfl (Seg.step rfl rfl (Yd.pickT rfl rfl) (Seg.step rfl rfl (Yd.move rfl) (Seg.skip rfl rfl (Seg.skip rfl rfl ?_)))))))
        refine Seg.skip rfl rfl (Seg.skip rfl rfl (Seg.step rfl rfl (Yd.pickT rfl rfl) (Seg.nil (At.then_ (Cd.condT rfl (Cd.seq (Cd.region ?_)))))))
        refine Seg.step rfl rfl (Yd.assign rfl) (Seg.nil (At.then_ (Cd.ret (At.then_ret ?_))))
        exact At.ret Tryz.results5 (.tmp rfl .nil) ⟨⟨1, rfl, hno 1 rfl⟩, hE0⟩
      · refine Seg.step rfl rfl (Yd.fieldAddr rfl rfl) (Seg.step rfl rfl (Yd.load1 rfl rfl (hB3.row _ _ rfl)) (Seg.step rfl rfl (Yd.lenS rfl rfl) (Seg.step rfl rfl (Yd.gtr rfl rfl) (Seg.step rfl rfl (Yd.pickF rfl rfl) (Seg.step rfl rfl (Yd.move rfl) ?_)))))
        refine Seg.gsplitp rfl rfl (fun h83 => ?_) (fun h83 => ?_)
        · refine Seg.skip rfl rfl (Seg.skip rfl rfl (Seg.skip rfl rfl (Seg.skip rfl rfl (Seg.step rfl rfl (Yd.pickT rfl rfl) (Seg.nil (At.then_ (Cd.condT rfl ?_)))))))
          refine Cd.seq (Cd.region (Seg.step rfl rfl (Yd.assign rfl) (Seg.nil (At.then_ (Cd.ret (At.then_ret ?_))))))
          exact At.ret Tryz.results5 (.tmp rfl .nil) ⟨⟨1, rfl, hno 1 rfl⟩, hE0⟩
        · refine Seg.step rfl rfl (Yd.fieldAddr rfl rfl) (Seg.step rfl rfl (Yd.load1 rfl rfl (hB3.row _ _ rfl)) (Seg.step rfl rfl (Yd.lenS rfl rfl) (Seg.step rfl rfl (Yd.gtr rfl rfl) (Seg.step rfl rfl (Yd.pickF rfl rfl) (Seg.nil (At.then_ ?_))))))
          refine Cd.condk rfl (fun h109 => ?_) (fun h109 => ?_)
          · refine Cd.seq (Cd.region (Seg.step rfl rfl (Yd.assign rfl) (Seg.nil (At.then_ (Cd.ret (At.then_ret ?_))))))
            exact At.ret Tryz.results5 (.tmp rfl .nil) ⟨⟨1, rfl, hno 1 rfl⟩, hE0⟩
          · exfalso; omega
end Go.Proofs.YtahpiaaffeiadaaGreat
