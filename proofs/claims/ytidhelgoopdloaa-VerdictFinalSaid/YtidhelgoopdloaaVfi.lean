/- The reference's Follow: its error and its records' number; messages compared with themselves; the verdicts. -/
import Derived.Test.YtidhelgoopdloaaCho
import Derived.Test.YtidhelgoopdloaaWku
namespace Go.Proofs.Ytidhelgoopdloaa
open Go Go.RowKit
/-- The error that a chain ends with. -/
def endOf (o : Out) : Int := o.e
theorem last_of {ps : List (Value × Name)} {n : Name} (h : (ps.map Prod.snd).getLast? = some n) : ∃ v, (ps.map Prod.fst)[ps.length - 1]? = some v ∧ (v, n) ∈ ps ∧ 0 < ps.length := by
  rw [List.getLast?_map, Option.map_eq_some_iff] at h
  obtain ⟨⟨v, m⟩, h1, rfl⟩ := h
  obtain ⟨ys, rfl⟩ := List.getLast?_eq_some_iff.1 h1
  exact ⟨v, by simp, by simp, by simp⟩
theorem SlK.row {w : World} {K k m c : Nat} {a : Addr} {cs : List Value} (h : SlK w K k (.slice (some a) m c) m cs) : Row w a cs := by
  obtain ⟨⟨_, _, he, _, h2, _⟩, _⟩ := h
  cases he
  exact h2 a rfl
set_option maxHeartbeats 400000 in
theorem refFollow_any (rs : List Rec) (qn : Name) (vq v1 : Value) (qt qc : Int) (w : World) (h0 : RecsAt w v1 rs) (h1 : NameAt w vq qn) (hf : ∀ r ∈ rs, FitR r) (hq : Fit qn) (hl : rs.length ≤ 1000) (o : Out) (ho : folR qt qc rs qn = o) :
    Ret Try.prog 20 #[.agg #[vq, .int .i64 qt, .int .i64 qc], v1] w fun v w' => (∃ al nl cl ar cr ttl links, v = .tuple #[.agg #[.slice al nl cl, .slice ar o.rs.length cr, .int .i64 ttl, .int .i64 links], .int .i64 o.e]) ∧ Ext w w' := by
  have hE0 := Ext.refl w
  have hin0 : RecsAt w v1 rs ∧ True := ⟨h0, trivial⟩
  have hinq : Keep (NameAt w vq qn) := h1
  have hrw : ∀ r ∈ rs, RecAt w r := h0.2
  have hF := fol_fine (qt := qt) (qc := qc) (rs := rs) (n := qn)
  have hnf := fol_nfit (qt := qt) (qc := qc) (n := qn) hf hq
  have hcase := nms_fo (R := (recsOf qt qc · rs)) (K := (lk qt qc · rs)) 16 qn false 0
  rw [← fol_fo, show fol qt qc rs 16 qn false 0 = folR qt qc rs qn from rfl, show nms (recsOf qt qc · rs) (lk qt qc · rs) (16 + 1) qn = namesOf qt qc rs 17 qn from rfl] at hcase
  rw [ho] at hF hcase hnf
  refine Ret.body Try.func20 rfl Try.ntmps20 rfl ?_
  rcases hcase with ⟨hlen, he⟩ | ⟨hlen, he, hlast⟩
  · rcases hF with ⟨_, rfl⟩ | ⟨h, _⟩
    · refine Cd.seq ?_
      refine Cd.region ?_
      refine Seg.box rfl rfl rfl (fun w4 b4 hE4 hB4 hb4 => ?_)
      have hlt4_0 := Nat.le_trans hE0.size hb4
      replace h0 := h0.ext hE4
      replace hE0 := Ext.trans hE0 hE4
      refine Seg.alloc rfl rfl rfl (fun w5 b5 hE5 hB5 hb5 => ?_)
      have hlt5_0 := Nat.le_trans hE4.size hb5
      have hlt5_1 := Nat.lt_of_lt_of_le hB4.lt hb5
      have hlt5_2 := Nat.le_trans hE0.size hb5
      replace hE4 := Ext.trans hE4 hE5
      replace hB4 := hB4.ext hE5
      replace h0 := h0.ext hE5
      replace hE0 := Ext.trans hE0 hE5
      refine Seg.step rfl rfl (Yd.assign rfl) ?_
      refine Seg.nil ?_
      refine At.then_ ?_
      refine Cd.seq ?_
      refine Cd.region ?_
      refine Seg.step rfl rfl (Yd.loadN rfl rfl rfl hB4.row) ?_
      refine Seg.step rfl rfl (Yd.move rfl) ?_
      (refine Seg.call rfl rfl (own_of rfl) rfl (names_any rs qn vq v1 qt qc _ h0 ((show NameAt w vq qn from hinq).ext hE0) hf hq hl) ?_; rintro vN w13 ⟨⟨ps, hSN, hps, hpn⟩, hE13⟩; obtain ⟨aN, cN, rfl⟩ := sl_shape hSN; have hpl : ps.length = 18 := (by rw [← hpn, List.length_map] at hlen; exact hlen))
      replace hE5 := Ext.trans hE5 hE13
      replace hB5 := hB5.ext hE13
      replace hE4 := Ext.trans hE4 hE13
      replace hB4 := hB4.ext hE13
      replace h0 := h0.ext hE13
      replace hE0 := Ext.trans hE0 hE13
      refine Seg.step rfl rfl (Yd.assign rfl) ?_
      refine Seg.nil ?_
      refine At.then_ ?_
      refine Cd.seq ?_
      refine Cd.seq ?_
      refine Cd.region ?_
      refine Seg.step rfl rfl (Yd.move rfl) ?_
      refine Seg.step rfl rfl (Yd.lenS rfl rfl) ?_
      refine Seg.step rfl rfl (Yd.gtr rfl rfl) ?_
      refine Seg.nil ?_
      refine At.then_ ?_
      refine Cd.condk rfl (fun h25 => ?_) (fun h25 => ?_)
      · refine Cd.seq ?_
        refine Cd.region ?_
        refine Seg.step rfl rfl (Yd.buildT (cs := _ :: _ :: _ :: _ :: []) 4 rfl rfl rfl rfl rfl) ?_
        refine Seg.storeN rfl rfl rfl rfl hB5 rfl (by first | assumption | exact List.all_eq_true.1 rfl) (fun w30 hW30 hB30 => ?_)
        clear hB5
        replace hE5 := Ext.wr' hE5 hW30 (by omega)
        replace hE4 := Ext.wr' hE4 hW30 (by omega)
        replace hB4 := hB4.wr hW30 (by omega)
        replace hE0 := Ext.wr' hE0 hW30 (by omega)
        refine Seg.step rfl rfl (Yd.assign rfl) ?_
        refine Seg.nil ?_
        refine At.then_ ?_
        refine Cd.ret ?_
        refine At.then_ret ?_
        exact At.ret Try.results20 (.cell rfl (run_loadVarN rfl rfl (by assumption : Bx _ b5 _).row) (.tmp rfl .nil)) ⟨⟨_, _, _, none, 0, _, _, rfl⟩, hE0⟩
      · exfalso; omega
    · rcases h with ⟨h, _⟩ | ⟨h, _⟩ <;> omega
  · rcases hF with ⟨h, _⟩ | ⟨hh, _, _, _, _, hrs⟩
    · exact absurd h he
    obtain ⟨nm, R, ttl, L, e⟩ := o
    simp only at hh hrs he hlast hnf
    rcases hh with ⟨rfl, hne⟩ | ⟨rfl, rfl⟩
    · refine Cd.seq ?_
      refine Cd.region ?_
      refine Seg.box rfl rfl rfl (fun w4 b4 hE4 hB4 hb4 => ?_)
      have hlt4_0 := Nat.le_trans hE0.size hb4
      replace h0 := h0.ext hE4
      replace hE0 := Ext.trans hE0 hE4
      refine Seg.alloc rfl rfl rfl (fun w5 b5 hE5 hB5 hb5 => ?_)
      have hlt5_0 := Nat.le_trans hE4.size hb5
      have hlt5_1 := Nat.lt_of_lt_of_le hB4.lt hb5
      have hlt5_2 := Nat.le_trans hE0.size hb5
      replace hE4 := Ext.trans hE4 hE5
      replace hB4 := hB4.ext hE5
      replace h0 := h0.ext hE5
      replace hE0 := Ext.trans hE0 hE5
      refine Seg.step rfl rfl (Yd.assign rfl) ?_
      refine Seg.nil ?_
      refine At.then_ ?_
      refine Cd.seq ?_
      refine Cd.region ?_
      refine Seg.step rfl rfl (Yd.loadN rfl rfl rfl hB4.row) ?_
      refine Seg.step rfl rfl (Yd.move rfl) ?_
      (refine Seg.call rfl rfl (own_of rfl) rfl (names_any rs qn vq v1 qt qc _ h0 ((show NameAt w vq qn from hinq).ext hE0) hf hq hl) ?_; rintro vN w13 ⟨⟨ps, hSN, hps, hpn⟩, hE13⟩; obtain ⟨aN, cN, rfl⟩ := sl_shape hSN; (rw [← hpn, List.length_map] at hlen); (rw [← hpn] at hlast); obtain ⟨vl, hget, hvm, hpos⟩ := last_of hlast)
      replace hE5 := Ext.trans hE5 hE13
      replace hB5 := hB5.ext hE13
      replace hE4 := Ext.trans hE4 hE13
      replace hB4 := hB4.ext hE13
      replace h0 := h0.ext hE13
      replace hE0 := Ext.trans hE0 hE13
      refine Seg.step rfl rfl (Yd.assign rfl) ?_
      refine Seg.nil ?_
      refine At.then_ ?_
      refine Cd.seq ?_
      refine Cd.seq ?_
      refine Cd.region ?_
      refine Seg.step rfl rfl (Yd.move rfl) ?_
      refine Seg.step rfl rfl (Yd.lenS rfl rfl) ?_
      refine Seg.step rfl rfl (Yd.gtr rfl rfl) ?_
      refine Seg.nil ?_
      refine At.then_ ?_
      refine Cd.condk rfl (fun h25 => ?_) (fun h25 => ?_)
      · exfalso; omega
      refine Cd.skip ?_
      refine At.then_ ?_
      refine Cd.seq ?_
      refine Cd.region ?_
      refine Seg.step rfl rfl (Yd.move rfl) ?_
      refine Seg.step rfl rfl (Yd.move rfl) ?_
      refine Seg.step rfl rfl (Yd.lenS rfl rfl) ?_
      refine Seg.step rfl rfl (Yd.subI rfl rfl (by omega)) ?_
      have hvl0 : NameAt w5 vl nm := (hps _ hvm).1
      obtain ⟨al, cl, rfl⟩ := name_shape hvl0
      obtain ⟨ar', cr', he', hl1, hr1, hz1⟩ := id hSN
      cases he'
      obtain ⟨a, rfl⟩ : ∃ a, aN = some a := by
        cases aN with
        | none => have := hz1 rfl; omega
        | some a => exact ⟨a, rfl⟩
      have hR := hr1 a rfl
      have hvl : NmB w13 w13.heap.size (.slice al nm.length cl) nm := ⟨hvl0.ext (by assumption), (hvl0.ext (by assumption)).lt⟩
      have hSK : SlK w13 w13.heap.size 1 (.slice (some a) ps.length cN) ps.length (ps.map Prod.fst) := ⟨hSN, hSN.lt⟩
      clear hR hr1 hl1 hz1
      obtain ⟨r0, R, rfl⟩ : ∃ r0 R', R = r0 :: R' := (by cases R with | nil => exact absurd rfl hne | cons a b => exact ⟨a, b, rfl⟩)
      have hRl : 0 < (r0 :: R).length := Nat.succ_pos _
      refine Seg.step rfl rfl (Yd.indexAddr1 rfl rfl rfl (NatOf.sub (NatOf.cast _) (NatOf.cast 1) (by omega)) (by omega)) ?_
      refine Seg.step rfl rfl (Yd.load1 rfl rfl ((SlK.row hSK) _ _ hget)) ?_
      refine Seg.step rfl rfl (Yd.assign rfl) ?_
      refine Seg.nil ?_
      refine At.then_ ?_
      refine Cd.seq ?_
      refine Cd.region ?_
      refine Seg.step rfl rfl (Yd.move rfl) ?_
      refine Seg.step rfl rfl (Yd.move rfl) ?_
      refine Seg.step rfl rfl (Yd.lenS rfl rfl) ?_
      refine Seg.step rfl rfl (Yd.subI rfl rfl (by omega)) ?_
      refine Seg.step rfl rfl (Yd.move rfl) ?_
      refine Seg.step rfl rfl (Yd.move rfl) ?_
      refine Seg.step rfl rfl (Yd.fieldAddr rfl rfl) ?_
      refine Seg.step rfl rfl (Yd.load1 rfl rfl (hB4.row _ _ rfl)) ?_
      refine Seg.step rfl rfl (Yd.fieldAddr rfl rfl) ?_
      refine Seg.step rfl rfl (Yd.load1 rfl rfl (hB4.row _ _ rfl)) ?_
      (refine Seg.call rfl rfl (own_of rfl) rfl (of_any rs nm v1 (.slice al nm.length cl) qt qc _ h0 hvl.1 hf hnf hl) ?_; rw [← hrs]; rintro vq5 w43 ⟨hqa, hE43⟩; obtain ⟨⟨ar, cr, rfl, hlr, hrr, hzr⟩, _⟩ := hqa; obtain ⟨p5, rfl⟩ : ∃ p5, ar = some p5 := (by cases ar with | none => (have := hzr rfl; omega) | some p => exact ⟨p, rfl⟩); have hRK : SlK w43 w43.heap.size 33 (.slice (some p5) (r0 :: R).length cr) (r0 :: R).length (recsV (r0 :: R)) := (⟨⟨_, _, rfl, hlr, hrr, hzr⟩, Sl.lt (k := 32) ⟨_, _, rfl, hlr, hrr, hzr⟩⟩); clear hlr hrr hzr)
      replace hE13 := Ext.trans hE13 hE43
      replace hE5 := Ext.trans hE5 hE43
      replace hB5 := hB5.ext hE43
      replace hE4 := Ext.trans hE4 hE43
      replace hB4 := hB4.ext hE43
      replace h0 := h0.ext hE43
      replace hE0 := Ext.trans hE0 hE43
      replace hSN := hSN.ext hE43
      replace hvl := hvl.ext hE43
      replace hSK := hSK.ext hE43
      refine Seg.step rfl rfl (Yd.buildT (cs := _ :: _ :: _ :: _ :: []) 4 rfl rfl rfl rfl rfl) ?_
      refine Seg.alloc rfl rfl rfl (fun w45 b45 hE45 hB45 hb45 => ?_)
      have hlt45_0 := Nat.le_trans hE43.size hb45
      have hlt45_1 := Nat.le_trans hE13.size hb45
      have hlt45_2 := Nat.le_trans hE5.size hb45
      have hlt45_3 := Nat.lt_of_lt_of_le hB5.lt hb45
      have hlt45_4 := Nat.le_trans hE4.size hb45
      have hlt45_5 := Nat.lt_of_lt_of_le hB4.lt hb45
      have hlt45_6 := Nat.le_trans hE0.size hb45
      replace hE43 := Ext.trans hE43 hE45
      replace hRK := hRK.ext hE45
      replace hE13 := Ext.trans hE13 hE45
      replace hE5 := Ext.trans hE5 hE45
      replace hB5 := hB5.ext hE45
      replace hE4 := Ext.trans hE4 hE45
      replace hB4 := hB4.ext hE45
      replace h0 := h0.ext hE45
      replace hE0 := Ext.trans hE0 hE45
      replace hSN := hSN.ext hE45
      replace hvl := hvl.ext hE45
      replace hSK := hSK.ext hE45
      refine Seg.storeN rfl rfl rfl rfl hB45 rfl (by first | assumption | exact List.all_eq_true.1 rfl) (fun w46 hW46 hB46 => ?_)
      clear hB45
      replace hE45 := Ext.wr' hE45 hW46 (by omega)
      replace hE43 := Ext.wr' hE43 hW46 (by omega)
      replace hRK := hRK.wr hW46 (by omega)
      replace hE13 := Ext.wr' hE13 hW46 (by omega)
      replace hE5 := Ext.wr' hE5 hW46 (by omega)
      replace hB5 := hB5.wr hW46 (by omega)
      replace hE4 := Ext.wr' hE4 hW46 (by omega)
      replace hB4 := hB4.wr hW46 (by omega)
      replace hE0 := Ext.wr' hE0 hW46 (by omega)
      replace hvl := hvl.wr hW46 (by omega)
      replace hSK := hSK.wr hW46 (by omega)
      refine Seg.nil ?_
      refine At.then_ ?_
      refine Cd.seq ?_
      refine Cd.seq ?_
      refine Cd.region ?_
      refine Seg.step rfl rfl (Yd.fieldAddr rfl rfl) ?_
      refine Seg.step rfl rfl (Yd.load1 rfl rfl (hB46.row _ _ rfl)) ?_
      refine Seg.step rfl rfl (Yd.lenS rfl rfl) ?_
      refine Seg.step rfl rfl (Yd.eql rfl rfl) ?_
      refine Seg.nil ?_
      refine At.then_ ?_
      refine Cd.condF rfl ?_
      refine Cd.skip ?_
      refine At.then_ ?_
      refine Cd.seq ?_
      refine Cd.region ?_
      refine Seg.step rfl rfl (Yd.fieldAddr rfl rfl) ?_
      refine Seg.step rfl rfl (Yd.load1 rfl rfl (hB46.row _ _ rfl)) ?_
      refine Seg.step rfl rfl (Yd.indexAddr rfl rfl rfl (NatOf.cast 0) (by omega)) ?_
      refine Seg.step rfl rfl (Yd.fieldAddr' rfl rfl) ?_
      refine Seg.step rfl rfl (Yd.load1 rfl rfl ((SlK.row hRK) _ _ rfl)) ?_
      refine Seg.step rfl rfl (Yd.fieldAddr rfl rfl) ?_
      refine Seg.store1 rfl rfl rfl rfl rfl hB46 (by first | omega | (simp; done) | exact Nat.le_of_ble_eq_true rfl) (fun w69 hW69 hB69 => ?_)
      clear hB46
      replace hW46 := Wr.trans hW46 hW69
      replace hE45 := Ext.wr' hE45 hW69 (by omega)
      replace hE43 := Ext.wr' hE43 hW69 (by omega)
      replace hRK := hRK.wr hW69 (by omega)
      replace hE13 := Ext.wr' hE13 hW69 (by omega)
      replace hE5 := Ext.wr' hE5 hW69 (by omega)
      replace hB5 := hB5.wr hW69 (by omega)
      replace hE4 := Ext.wr' hE4 hW69 (by omega)
      replace hB4 := hB4.wr hW69 (by omega)
      replace hE0 := Ext.wr' hE0 hW69 (by omega)
      replace hvl := hvl.wr hW69 (by omega)
      replace hSK := hSK.wr hW69 (by omega)
      refine Seg.nil ?_
      refine At.then_ ?_
      refine Cd.seq ?_
      refine Cd.seq ?_
      refine Cd.region ?_
      refine Seg.step rfl rfl (Yd.assign rfl) ?_
      refine Seg.nil ?_
      refine At.then_ ?_
      refine Cd.block ?_
      have hN : ∃ N, N = ps.length := ⟨_, rfl⟩
      have hlt45 : w43.heap.size ≤ b45 ∧ w13.heap.size ≤ b45 ∧ b4 < b45 ∧ b5 < b45 := by omega
      have hL45 := hB69.lt
      refine Cd.loop (σ := Nat × Int) (fun s => [(1, v1), (2, .pointer (some ⟨b4, 0, none⟩)), (4, .pointer (some ⟨b5, 0, none⟩)), (6, .slice (some a) ps.length cN), (8, .pointer (some ⟨b45, 0, none⟩)), (9, .int .i64 s.1)])
        (fun s w' => s.1 ≤ (r0 :: R).length ∧ Bx w' b45 [.slice al nm.length cl, .slice (some p5) (r0 :: R).length cr, .int .i64 s.2, .int .i64 (ps.length - 1)] ∧ SlK w' w43.heap.size 33 (.slice (some p5) (r0 :: R).length cr) (r0 :: R).length (recsV (r0 :: R)) ∧ SlK w' w13.heap.size 1 (.slice (some a) ps.length cN) ps.length (ps.map Prod.fst)
          ∧ Bx w' b5 zT59.cells.toList ∧ Bx w' b4 [vq, .int .i64 qt, .int .i64 qc] ∧ Ext w w' ∧ Ext w5 w')
        (fun s => (r0 :: R).length - s.1) (0, r0.ttl) (.cons rfl (.cons rfl (.cons rfl (.cons rfl (.cons rfl (.cons rfl (.nil _))))))) ⟨Nat.zero_le _, hB69, hRK, hSK, hB5, hB4, hE0, by assumption⟩ ?_
      have hRl2 : (r0 :: R).length ≤ 1000 := by rw [hrs]; exact Nat.le_trans (recsOf_le _ _ _ _) hl
      clear hB69 hRK hSK hB5 hB4 hE0 h0 hSN hvl hW69 hW46
      rintro ⟨i, t⟩ w0 ⟨hi, hB45, hRK, hSK, hB5, hB4, hE0, hE05⟩
      simp only at hi hB45
      by_cases hlt : i < (r0 :: R).length
      · obtain ⟨r, hri⟩ : ∃ r, (r0 :: R)[i]? = some r := ⟨_, List.getElem?_eq_getElem hlt⟩
        have hrow := recs_part (SlK.row hRK) hri
        generalize hRR : r0 :: R = RR at *
        refine Cd.seq ?_
        refine Cd.seq ?_
        refine Cd.region ?_
        refine Seg.step rfl rfl (Yd.move rfl) ?_
        refine Seg.step rfl rfl (Yd.fieldAddr rfl rfl) ?_
        refine Seg.step rfl rfl (Yd.load1 rfl rfl (hB45.row _ _ rfl)) ?_
        refine Seg.step rfl rfl (Yd.lenS rfl rfl) ?_
        refine Seg.step rfl rfl (Yd.lss rfl rfl) ?_
        refine Seg.nil ?_
        refine At.then_ ?_
        refine Cd.condk rfl (fun h80 => ?_) (fun h80 => ?_)
        · refine Cd.skip ?_
          refine At.then_ ?_
          refine Cd.seq ?_
          refine Cd.block ?_
          refine Cd.still 10 (by kernel_rfl) (by kernel_rfl) (fun w86 hE86 => ?_)
          replace hSK := hSK.ext hE86
          replace hB5 := hB5.ext hE86
          replace hB4 := hB4.ext hE86
          replace hE0 := Ext.trans hE0 hE86
          replace hE05 := Ext.trans hE05 hE86
          replace hrow := hrow.ext hE86
          replace hB45 := hB45.ext hE86
          replace hRK := hRK.ext hE86
          refine SegS.step rfl rfl (Yd.fieldAddr rfl rfl) ?_
          refine SegS.step rfl rfl (Yd.load1 rfl rfl (hB45.row _ _ rfl)) ?_
          refine SegS.step rfl rfl (Yd.fieldAddr rfl rfl) ?_
          refine SegS.step rfl rfl (Yd.load1 rfl rfl (hB45.row _ _ rfl)) ?_
          refine SegS.step rfl rfl (Yd.move rfl) ?_
          refine SegS.step rfl rfl (Yd.indexAddr rfl rfl rfl (NatOf.cast _) (by omega)) ?_
          refine SegS.step rfl rfl (Yd.fieldAddr rfl rfl) ?_
          refine SegS.step rfl rfl (Yd.load1 rfl rfl (hrow _ _ rfl)) ?_
          refine SegS.step rfl rfl (Yd.min2 rfl rfl) ?_
          refine SegS.step rfl rfl (Yd.fieldAddr rfl rfl) ?_
          refine SegS.nil ?_
          refine Seg.store1 rfl rfl rfl rfl rfl hB45 (by first | omega | (simp; done) | exact Nat.le_of_ble_eq_true rfl) (fun w98 hW98 hB98 => ?_)
          clear hB45
          replace hSK := hSK.wr hW98 (by omega)
          replace hB5 := hB5.wr hW98 (by omega)
          replace hB4 := hB4.wr hW98 (by omega)
          replace hE0 := Ext.wr' hE0 hW98 (by omega)
          replace hE05 := Ext.wr' hE05 hW98 (by omega)
          replace hRK := hRK.wr hW98 (by omega)
          refine Seg.nil ?_
          refine At.blk ?_
          refine At.then_ ?_
          refine Cd.region ?_
          refine Seg.step rfl rfl (Yd.move rfl) ?_
          refine Seg.step rfl rfl (Yd.addI rfl rfl (by omega)) ?_
          refine Seg.step rfl rfl (Yd.assign rfl) ?_
          refine Seg.nil ?_
          exact At.round (i + 1, _) (.cons rfl (.cons rfl (.cons rfl (.cons rfl (.cons rfl (.cons rfl (.nil _))))))) ⟨hlt, by assumption, hRK, hSK, hB5, hB4, hE0, hE05⟩ (by show _ - _ < _ - _; omega)
        · exfalso; omega
      · obtain rfl : i = (r0 :: R).length := by omega
        refine Cd.seq ?_
        refine Cd.seq ?_
        refine Cd.region ?_
        refine Seg.step rfl rfl (Yd.move rfl) ?_
        refine Seg.step rfl rfl (Yd.fieldAddr rfl rfl) ?_
        refine Seg.step rfl rfl (Yd.load1 rfl rfl (hB45.row _ _ rfl)) ?_
        refine Seg.step rfl rfl (Yd.lenS rfl rfl) ?_
        refine Seg.step rfl rfl (Yd.lss rfl rfl) ?_
        refine Seg.nil ?_
        refine At.then_ ?_
        refine Cd.condk rfl (fun h80 => ?_) (fun h80 => ?_)
        · exfalso; omega
        refine Cd.exit ?_
        refine At.then_exit ?_
        refine At.then_exit ?_
        refine At.blk_same ?_
        refine At.then_ ?_
        refine Cd.seq ?_
        refine Cd.seq ?_
        refine Cd.region ?_
        refine Seg.step rfl rfl (Yd.assign rfl) ?_
        refine Seg.nil ?_
        refine At.then_ ?_
        refine Cd.block ?_
        clear hRK
        refine Cd.loop (σ := Nat × Int) (fun s => [(1, v1), (2, .pointer (some ⟨b4, 0, none⟩)), (4, .pointer (some ⟨b5, 0, none⟩)), (6, .slice (some a) ps.length cN), (8, .pointer (some ⟨b45, 0, none⟩)), (10, .int .i64 s.1)])
          (fun s w' => s.1 + 1 ≤ ps.length ∧ Bx w' b45 [.slice al nm.length cl, .slice (some p5) (r0 :: R).length cr, .int .i64 s.2, .int .i64 (ps.length - 1)] ∧ SlK w' w13.heap.size 1 (.slice (some a) ps.length cN) ps.length (ps.map Prod.fst)
            ∧ Bx w' b5 zT59.cells.toList ∧ Bx w' b4 [vq, .int .i64 qt, .int .i64 qc] ∧ Ext w w' ∧ Ext w5 w')
          (fun s => ps.length - s.1) (0, t) (.cons rfl (.cons rfl (.cons rfl (.cons rfl (.cons rfl (.cons rfl (.nil _))))))) ⟨hpos, hB45, hSK, hB5, hB4, hE0, hE05⟩ ?_
        have hps5 : ∀ p ∈ ps, NameAt w5 p.1 p.2 ∧ Fit p.2 := hps
        clear hB45 hSK hB5 hB4 hE0 hE05
        rintro ⟨i, t⟩ w0 ⟨hi, hB45, hSK, hB5, hB4, hE0, hE05⟩
        simp only at hi hB45
        by_cases hlt : i + 1 < ps.length
        · obtain ⟨p, hpi⟩ : ∃ p, ps[i]? = some p := ⟨_, List.getElem?_eq_getElem (by omega)⟩
          have hget2 : (ps.map Prod.fst)[i]? = some p.1 := by rw [List.getElem?_map, hpi]; rfl
          obtain ⟨hpa, hpf⟩ := hps5 p (List.mem_of_getElem? hpi)
          have hlk := nms_link (R := (recsOf qt qc · rs)) (K := (lk qt qc · rs)) 17 qn i (by
            rw [show nms (recsOf qt qc · rs) (lk qt qc · rs) 17 qn = namesOf qt qc rs 17 qn from rfl, ← hpn, List.length_map]; exact hlt)
          obtain ⟨m, hm1, hm2, hm3⟩ := hlk
          rw [show nms (recsOf qt qc · rs) (lk qt qc · rs) 17 qn = namesOf qt qc rs 17 qn from rfl, ← hpn, List.getElem?_map, hpi] at hm1
          obtain rfl : p.2 = m := by simpa using hm1
          obtain ⟨r5, R5, h5⟩ : ∃ r5 R5, recsOf 5 qc p.2 rs = r5 :: R5 := by
            rw [lk_head hm2] at hm3
            cases h : recsOf 5 qc p.2 rs with
            | nil => rw [h] at hm3; exact absurd rfl hm3
            | cons a b => exact ⟨a, b, rfl⟩
          have h5l : 0 < (r5 :: R5).length := Nat.succ_pos _
          refine Cd.seq ?_
          refine Cd.seq ?_
          refine Cd.region ?_
          refine Seg.step rfl rfl (Yd.move rfl) ?_
          refine Seg.step rfl rfl (Yd.addI rfl rfl (by omega)) ?_
          refine Seg.step rfl rfl (Yd.move rfl) ?_
          refine Seg.step rfl rfl (Yd.lenS rfl rfl) ?_
          refine Seg.step rfl rfl (Yd.lss rfl rfl) ?_
          refine Seg.nil ?_
          refine At.then_ ?_
          refine Cd.condk rfl (fun h91 => ?_) (fun h91 => ?_)
          · refine Cd.skip ?_
            refine At.then_ ?_
            refine Cd.seq ?_
            refine Cd.block ?_
            refine Cd.held 15 (by kernel_rfl) (fun w97 hE97 => ?_)
            replace hB45 := hB45.ext hE97
            replace hSK := hSK.ext hE97
            replace hB5 := hB5.ext hE97
            replace hB4 := hB4.ext hE97
            replace hE0 := Ext.trans hE0 hE97
            replace hE05 := Ext.trans hE05 hE97
            refine SegG.take 0 rfl (by kernel_rfl) (by kernel_rfl) (by kernel_rfl) (by kernel_rfl) (by kernel_rfl) rfl rfl (fun w' hw' => Yd.fieldAddr rfl rfl) ?_
            refine SegG.take 1 rfl (by kernel_rfl) (by kernel_rfl) (by kernel_rfl) (by kernel_rfl) (by kernel_rfl) rfl rfl (fun w' hw' => Yd.load1 rfl rfl ((hB45.ext hw').row _ _ rfl)) ?_
            refine SegG.take 2 rfl (by kernel_rfl) (by kernel_rfl) (by kernel_rfl) (by kernel_rfl) (by kernel_rfl) rfl rfl (fun w' hw' => Yd.move rfl) ?_
            refine SegG.take 3 rfl (by kernel_rfl) (by kernel_rfl) (by kernel_rfl) (by kernel_rfl) (by kernel_rfl) rfl rfl (fun w' hw' => Yd.move rfl) ?_
            refine SegG.take 4 rfl (by kernel_rfl) (by kernel_rfl) (by kernel_rfl) (by kernel_rfl) (by kernel_rfl) rfl rfl (fun w' hw' => Yd.move rfl) ?_
            refine SegG.take 5 rfl (by kernel_rfl) (by kernel_rfl) (by kernel_rfl) (by kernel_rfl) (by kernel_rfl) rfl rfl (fun w' hw' => Yd.indexAddr1 rfl rfl rfl (NatOf.cast _) (by omega)) ?_
            refine SegG.take 6 rfl (by kernel_rfl) (by kernel_rfl) (by kernel_rfl) (by kernel_rfl) (by kernel_rfl) rfl rfl (fun w' hw' => Yd.load1 rfl rfl (((SlK.row hSK).ext hw') _ _ hget2)) ?_
            refine SegG.take 7 rfl (by kernel_rfl) (by kernel_rfl) (by kernel_rfl) (by kernel_rfl) (by kernel_rfl) rfl rfl (fun w' hw' => Yd.fieldAddr rfl rfl) ?_
            refine SegG.take 8 rfl (by kernel_rfl) (by kernel_rfl) (by kernel_rfl) (by kernel_rfl) (by kernel_rfl) rfl rfl (fun w' hw' => Yd.load1 rfl rfl ((hB4.ext hw').row _ _ rfl)) ?_
            refine SegG.oneSeg (o := ⟨_, _, _, _, _, _⟩) 9 rfl (by kernel_rfl) ?_
            (refine Seg.call rfl rfl (own_of rfl) rfl (of_any rs p.2 v1 p.1 5 qc _ ((show RecsAt w v1 rs from hin0.1).ext hE0) (hpa.ext hE05) hf hpf hl) ?_; rw [h5]; rintro vq5 w108 ⟨hqa, hE108⟩; obtain ⟨⟨ar, cr5, rfl, hlr, hrr, hzr⟩, _⟩ := hqa; obtain ⟨p5', rfl⟩ : ∃ p5, ar = some p5 := (by cases ar with | none => (have := hzr rfl; omega) | some p => exact ⟨p, rfl⟩); have hRK5 : SlK w108 w108.heap.size 33 (.slice (some p5') (r5 :: R5).length cr5) (r5 :: R5).length (recsV (r5 :: R5)) := (⟨⟨_, _, rfl, hlr, hrr, hzr⟩, Sl.lt (k := 32) ⟨_, _, rfl, hlr, hrr, hzr⟩⟩); clear hlr hrr hzr)
            replace hE97 := Ext.trans hE97 hE108
            replace hB45 := hB45.ext hE108
            replace hSK := hSK.ext hE108
            replace hB5 := hB5.ext hE108
            replace hB4 := hB4.ext hE108
            replace hE0 := Ext.trans hE0 hE108
            replace hE05 := Ext.trans hE05 hE108
            refine SegG.back rfl (by first | assumption | exact Ext.refl _) ?_
            refine SegG.take 10 rfl (by kernel_rfl) (by kernel_rfl) (by kernel_rfl) (by kernel_rfl) (by kernel_rfl) rfl rfl (fun w' hw' => Yd.indexAddr rfl rfl rfl (NatOf.cast 0) (by omega)) ?_
            refine SegG.take 11 rfl (by kernel_rfl) (by kernel_rfl) (by kernel_rfl) (by kernel_rfl) (by kernel_rfl) rfl rfl (fun w' hw' => Yd.fieldAddr' rfl rfl) ?_
            refine SegG.oneSeg (o := ⟨_, _, _, _, _, _⟩) 12 rfl (by kernel_rfl) ?_
            refine Seg.step rfl rfl (Yd.load1 rfl rfl ((SlK.row hRK5) _ _ rfl)) ?_
            refine SegG.back rfl (by first | assumption | exact Ext.refl _) ?_
            refine SegG.take 13 rfl (by kernel_rfl) (by kernel_rfl) (by kernel_rfl) (by kernel_rfl) (by kernel_rfl) rfl rfl (fun w' hw' => Yd.min2 rfl rfl) ?_
            refine SegG.take 14 rfl (by kernel_rfl) (by kernel_rfl) (by kernel_rfl) (by kernel_rfl) (by kernel_rfl) rfl rfl (fun w' hw' => Yd.fieldAddr rfl rfl) ?_
            refine SegG.oneSeg (o := ⟨_, _, _, _, _, _⟩) 15 rfl (by kernel_rfl) ?_
            refine Seg.store1 rfl rfl rfl rfl rfl hB45 (by first | omega | (simp; done) | exact Nat.le_of_ble_eq_true rfl) (fun w118 hW118 hB118 => ?_)
            clear hB45
            replace hSK := hSK.wr hW118 (by omega)
            replace hB5 := hB5.wr hW118 (by omega)
            replace hB4 := hB4.wr hW118 (by omega)
            replace hE0 := Ext.wr' hE0 hW118 (by omega)
            replace hE05 := Ext.wr' hE05 hW118 (by omega)
            refine SegG.end_ rfl ?_
            refine SegA.done (by kernel_rfl) ?_
            refine At.blk ?_
            refine At.then_ ?_
            refine Cd.region ?_
            refine Seg.step rfl rfl (Yd.move rfl) ?_
            refine Seg.step rfl rfl (Yd.addI rfl rfl (by omega)) ?_
            refine Seg.step rfl rfl (Yd.assign rfl) ?_
            refine Seg.nil ?_
            exact At.round (i + 1, _) (.cons rfl (.cons rfl (.cons rfl (.cons rfl (.cons rfl (.cons rfl (.nil _))))))) ⟨hlt, by assumption, hSK, hB5, hB4, hE0, hE05⟩ (by show _ - _ < _ - _; omega)
          · exfalso; omega
        · refine Cd.seq ?_
          refine Cd.seq ?_
          refine Cd.region ?_
          refine Seg.step rfl rfl (Yd.move rfl) ?_
          refine Seg.step rfl rfl (Yd.addI rfl rfl (by omega)) ?_
          refine Seg.step rfl rfl (Yd.move rfl) ?_
          refine Seg.step rfl rfl (Yd.lenS rfl rfl) ?_
          refine Seg.step rfl rfl (Yd.lss rfl rfl) ?_
          refine Seg.nil ?_
          refine At.then_ ?_
          refine Cd.condk rfl (fun h91 => ?_) (fun h91 => ?_)
          · exfalso; omega
          · refine Cd.exit ?_
            refine At.then_exit ?_
            refine At.then_exit ?_
            refine At.blk_same ?_
            refine At.then_ ?_
            refine Cd.seq ?_
            refine Cd.region ?_
            refine Seg.step rfl rfl (Yd.loadN rfl rfl rfl hB45.row) ?_
            refine Seg.storeN rfl rfl rfl rfl hB5 rfl (by first | assumption | exact List.all_eq_true.1 rfl) (fun w101 hW101 hB101 => ?_)
            clear hB5
            replace hB45 := hB45.wr hW101 (by omega)
            replace hB4 := hB4.wr hW101 (by omega)
            replace hE0 := Ext.wr' hE0 hW101 (by omega)
            refine Seg.step rfl rfl (Yd.assign rfl) ?_
            refine Seg.nil ?_
            refine At.then_ ?_
            refine Cd.ret ?_
            exact At.ret Try.results20 (.cell rfl (run_loadVarN rfl rfl (by assumption : Bx _ b5 _).row) (.tmp rfl .nil)) ⟨⟨_, _, _, _, _, _, _, rfl⟩, hE0⟩
    · refine Cd.seq ?_
      refine Cd.region ?_
      refine Seg.box rfl rfl rfl (fun w4 b4 hE4 hB4 hb4 => ?_)
      have hlt4_0 := Nat.le_trans hE0.size hb4
      replace h0 := h0.ext hE4
      replace hE0 := Ext.trans hE0 hE4
      refine Seg.alloc rfl rfl rfl (fun w5 b5 hE5 hB5 hb5 => ?_)
      have hlt5_0 := Nat.le_trans hE4.size hb5
      have hlt5_1 := Nat.lt_of_lt_of_le hB4.lt hb5
      have hlt5_2 := Nat.le_trans hE0.size hb5
      replace hE4 := Ext.trans hE4 hE5
      replace hB4 := hB4.ext hE5
      replace h0 := h0.ext hE5
      replace hE0 := Ext.trans hE0 hE5
      refine Seg.step rfl rfl (Yd.assign rfl) ?_
      refine Seg.nil ?_
      refine At.then_ ?_
      refine Cd.seq ?_
      refine Cd.region ?_
      refine Seg.step rfl rfl (Yd.loadN rfl rfl rfl hB4.row) ?_
      refine Seg.step rfl rfl (Yd.move rfl) ?_
      (refine Seg.call rfl rfl (own_of rfl) rfl (names_any rs qn vq v1 qt qc _ h0 ((show NameAt w vq qn from hinq).ext hE0) hf hq hl) ?_; rintro vN w13 ⟨⟨ps, hSN, hps, hpn⟩, hE13⟩; obtain ⟨aN, cN, rfl⟩ := sl_shape hSN; (rw [← hpn, List.length_map] at hlen); (rw [← hpn] at hlast); obtain ⟨vl, hget, hvm, hpos⟩ := last_of hlast)
      replace hE5 := Ext.trans hE5 hE13
      replace hB5 := hB5.ext hE13
      replace hE4 := Ext.trans hE4 hE13
      replace hB4 := hB4.ext hE13
      replace h0 := h0.ext hE13
      replace hE0 := Ext.trans hE0 hE13
      refine Seg.step rfl rfl (Yd.assign rfl) ?_
      refine Seg.nil ?_
      refine At.then_ ?_
      refine Cd.seq ?_
      refine Cd.seq ?_
      refine Cd.region ?_
      refine Seg.step rfl rfl (Yd.move rfl) ?_
      refine Seg.step rfl rfl (Yd.lenS rfl rfl) ?_
      refine Seg.step rfl rfl (Yd.gtr rfl rfl) ?_
      refine Seg.nil ?_
      refine At.then_ ?_
      refine Cd.condk rfl (fun h25 => ?_) (fun h25 => ?_)
      · exfalso; omega
      refine Cd.skip ?_
      refine At.then_ ?_
      refine Cd.seq ?_
      refine Cd.region ?_
      refine Seg.step rfl rfl (Yd.move rfl) ?_
      refine Seg.step rfl rfl (Yd.move rfl) ?_
      refine Seg.step rfl rfl (Yd.lenS rfl rfl) ?_
      refine Seg.step rfl rfl (Yd.subI rfl rfl (by omega)) ?_
      have hvl0 : NameAt w5 vl nm := (hps _ hvm).1
      obtain ⟨al, cl, rfl⟩ := name_shape hvl0
      obtain ⟨ar', cr', he', hl1, hr1, hz1⟩ := id hSN
      cases he'
      obtain ⟨a, rfl⟩ : ∃ a, aN = some a := by
        cases aN with
        | none => have := hz1 rfl; omega
        | some a => exact ⟨a, rfl⟩
      have hR := hr1 a rfl
      have hvl : NmB w13 w13.heap.size (.slice al nm.length cl) nm := ⟨hvl0.ext (by assumption), (hvl0.ext (by assumption)).lt⟩
      have hSK : SlK w13 w13.heap.size 1 (.slice (some a) ps.length cN) ps.length (ps.map Prod.fst) := ⟨hSN, hSN.lt⟩
      clear hR hr1 hl1 hz1
      refine Seg.step rfl rfl (Yd.indexAddr1 rfl rfl rfl (NatOf.sub (NatOf.cast _) (NatOf.cast 1) (by omega)) (by omega)) ?_
      refine Seg.step rfl rfl (Yd.load1 rfl rfl ((SlK.row hSK) _ _ hget)) ?_
      refine Seg.step rfl rfl (Yd.assign rfl) ?_
      refine Seg.nil ?_
      refine At.then_ ?_
      refine Cd.seq ?_
      refine Cd.region ?_
      refine Seg.step rfl rfl (Yd.move rfl) ?_
      refine Seg.step rfl rfl (Yd.move rfl) ?_
      refine Seg.step rfl rfl (Yd.lenS rfl rfl) ?_
      refine Seg.step rfl rfl (Yd.subI rfl rfl (by omega)) ?_
      refine Seg.step rfl rfl (Yd.move rfl) ?_
      refine Seg.step rfl rfl (Yd.move rfl) ?_
      refine Seg.step rfl rfl (Yd.fieldAddr rfl rfl) ?_
      refine Seg.step rfl rfl (Yd.load1 rfl rfl (hB4.row _ _ rfl)) ?_
      refine Seg.step rfl rfl (Yd.fieldAddr rfl rfl) ?_
      refine Seg.step rfl rfl (Yd.load1 rfl rfl (hB4.row _ _ rfl)) ?_
      (refine Seg.call rfl rfl (own_of rfl) rfl (of_any rs nm v1 (.slice al nm.length cl) qt qc _ h0 hvl.1 hf hnf hl) ?_; rw [← hrs]; rintro vq5 w43 ⟨hqa, hE43⟩; obtain ⟨aq5, dq5, rfl⟩ := recsAt_shape hqa)
      replace hE13 := Ext.trans hE13 hE43
      replace hE5 := Ext.trans hE5 hE43
      replace hB5 := hB5.ext hE43
      replace hE4 := Ext.trans hE4 hE43
      replace hB4 := hB4.ext hE43
      replace h0 := h0.ext hE43
      replace hE0 := Ext.trans hE0 hE43
      replace hSN := hSN.ext hE43
      replace hvl := hvl.ext hE43
      replace hSK := hSK.ext hE43
      refine Seg.step rfl rfl (Yd.buildT (cs := _ :: _ :: _ :: _ :: []) 4 rfl rfl rfl rfl rfl) ?_
      refine Seg.alloc rfl rfl rfl (fun w45 b45 hE45 hB45 hb45 => ?_)
      have hlt45_0 := Nat.le_trans hE43.size hb45
      have hlt45_1 := Nat.le_trans hE13.size hb45
      have hlt45_2 := Nat.le_trans hE5.size hb45
      have hlt45_3 := Nat.lt_of_lt_of_le hB5.lt hb45
      have hlt45_4 := Nat.le_trans hE4.size hb45
      have hlt45_5 := Nat.lt_of_lt_of_le hB4.lt hb45
      have hlt45_6 := Nat.le_trans hE0.size hb45
      replace hE43 := Ext.trans hE43 hE45
      replace hqa := hqa.ext hE45
      replace hE13 := Ext.trans hE13 hE45
      replace hE5 := Ext.trans hE5 hE45
      replace hB5 := hB5.ext hE45
      replace hE4 := Ext.trans hE4 hE45
      replace hB4 := hB4.ext hE45
      replace h0 := h0.ext hE45
      replace hE0 := Ext.trans hE0 hE45
      replace hSN := hSN.ext hE45
      replace hvl := hvl.ext hE45
      replace hSK := hSK.ext hE45
      refine Seg.storeN rfl rfl rfl rfl hB45 rfl (by first | assumption | exact List.all_eq_true.1 rfl) (fun w46 hW46 hB46 => ?_)
      clear hB45
      replace hE45 := Ext.wr' hE45 hW46 (by omega)
      replace hE43 := Ext.wr' hE43 hW46 (by omega)
      replace hE13 := Ext.wr' hE13 hW46 (by omega)
      replace hE5 := Ext.wr' hE5 hW46 (by omega)
      replace hB5 := hB5.wr hW46 (by omega)
      replace hE4 := Ext.wr' hE4 hW46 (by omega)
      replace hB4 := hB4.wr hW46 (by omega)
      replace hE0 := Ext.wr' hE0 hW46 (by omega)
      replace hvl := hvl.wr hW46 (by omega)
      replace hSK := hSK.wr hW46 (by omega)
      refine Seg.nil ?_
      refine At.then_ ?_
      refine Cd.seq ?_
      refine Cd.seq ?_
      refine Cd.region ?_
      refine Seg.step rfl rfl (Yd.fieldAddr rfl rfl) ?_
      refine Seg.step rfl rfl (Yd.load1 rfl rfl (hB46.row _ _ rfl)) ?_
      refine Seg.step rfl rfl (Yd.lenS rfl rfl) ?_
      refine Seg.step rfl rfl (Yd.eql rfl rfl) ?_
      refine Seg.nil ?_
      refine At.then_ ?_
      refine Cd.condT rfl ?_
      refine Cd.seq ?_
      refine Cd.region ?_
      refine Seg.step rfl rfl (Yd.loadN rfl rfl rfl hB46.row) ?_
      refine Seg.storeN rfl rfl rfl rfl hB5 rfl (by first | assumption | exact List.all_eq_true.1 rfl) (fun w62 hW62 hB62 => ?_)
      clear hB5
      replace hB46 := hB46.wr hW62 (by omega)
      replace hE5 := Ext.wr' hE5 hW62 (by omega)
      replace hE4 := Ext.wr' hE4 hW62 (by omega)
      replace hB4 := hB4.wr hW62 (by omega)
      replace hE0 := Ext.wr' hE0 hW62 (by omega)
      refine Seg.step rfl rfl (Yd.assign rfl) ?_
      refine Seg.nil ?_
      refine At.then_ ?_
      refine Cd.ret ?_
      refine At.then_ret ?_
      exact At.ret Try.results20 (.cell rfl (run_loadVarN rfl rfl (by assumption : Bx _ b5 _).row) (.tmp rfl .nil)) ⟨⟨_, _, _, _, _, _, _, rfl⟩, hE0⟩
end Go.Proofs.Ytidhelgoopdloaa
