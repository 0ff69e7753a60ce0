/- The reference's names of a chain: the walk. -/
import Derived.Test.YtidhelgoopdloaaWrk
namespace Go.Proofs.Ytidhelgoopdloaa
open Go Go.RowKit
abbrev NK (qt qc : Int) (rs : List Rec) (k : Nat) (n : Name) : List Name := nms (recsOf qt qc · rs) (lk qt qc · rs) k n
theorem nk_recs {qt qc : Int} {rs : List Rec} {n : Name} (k : Nat) (h : recsOf qt qc n rs ≠ []) : NK qt qc rs k n = [n] := by
  cases k with
  | zero => rfl
  | succ k => unfold NK; rw [nms, if_pos h]
theorem nk_none {qt qc : Int} {rs : List Rec} {n : Name} (k : Nat) (h : recsOf qt qc n rs = []) (h5 : recsOf 5 qc n rs = []) : NK qt qc rs k n = [n] := by
  cases k with
  | zero => rfl
  | succ k => unfold NK; rw [nms, if_neg (fun e => e h), lk_head h, h5]; rfl
theorem nk_step {qt qc : Int} {rs : List Rec} {n : Name} {k : Nat} {r : Rec} {l : List Rec} (hk : 0 < k) (h : recsOf qt qc n rs = []) (h5 : recsOf 5 qc n rs = r :: l) : NK qt qc rs k n = n :: NK qt qc rs (k - 1) r.tg := by
  obtain ⟨k, rfl⟩ : ∃ k', k = k' + 1 := ⟨k - 1, by omega⟩
  unfold NK
  rw [nms, if_neg (fun e => e h), lk_head h, h5]
  rfl
theorem snoc_one {w : World} {ps : List (Value × Name)} {vn : Value} {n : Name} (h : ∀ p ∈ ps ++ [(vn, n)], NameAt w p.1 p.2 ∧ Fit p.2) : ∀ c ∈ [vn], c.oneCell' = true := by
  intro c hc
  obtain rfl := List.mem_singleton.1 hc
  exact name_one (h (_, n) (by simp)).1
theorem recsV_cons (r : Rec) (l : List Rec) : recsV (r :: l) = r.cells ++ recsV l := rfl
set_option maxHeartbeats 400000 in
theorem names_any (rs : List Rec) (qn : Name) (vq v1 : Value) (qt qc : Int) (w : World) (h0 : RecsAt w v1 rs) (h1 : NameAt w vq qn) (hf : ∀ r ∈ rs, FitR r) (hq : Fit qn) (hl : rs.length ≤ 1000) :
    Ret Try.prog 16 #[.agg #[vq, .int .i64 qt, .int .i64 qc], v1] w fun v w' => (∃ ps : List (Value × Name), Sl w' 1 v ps.length (ps.map Prod.fst) ∧ (∀ p ∈ ps, NameAt w p.1 p.2 ∧ Fit p.2) ∧ ps.map Prod.snd = namesOf qt qc rs 17 qn) ∧ Ext w w' := by
  have hE0 := Ext.refl w
  have hk0 : Keep (RecsAt w v1 rs) := h0
  obtain ⟨aq, cq, rfl⟩ := name_shape h1
  refine Ret.body Try.func16 rfl Try.ntmps16 rfl ?_
  refine Cd.seq ?_
  refine Cd.region ?_
  refine Seg.box rfl rfl rfl (fun w4 b4 hE4 hB4 hb4 => ?_)
  have hlt4_0 := Nat.le_trans hE0.size hb4
  replace h0 := h0.ext hE4
  replace hE0 := Ext.trans hE0 hE4
  refine Seg.step rfl rfl (Yd.assign rfl) ?_
  refine Seg.nil ?_
  refine At.then_ ?_
  refine Cd.seq ?_
  refine Cd.region ?_
  refine Seg.step rfl rfl (Yd.fieldAddr rfl rfl) ?_
  refine Seg.step rfl rfl (Yd.load1 rfl rfl (hB4.row _ _ rfl)) ?_
  have hkB : Keep (Bx w4 b4 [.slice aq qn.length cq, .int .i64 qt, .int .i64 qc]) := hB4
  have hkE : Keep (Ext w w4) := hE0
  refine Seg.buildSliceV rfl rfl rfl rfl rfl rfl rfl rfl rfl rfl (fun w5 b5 hE5 hB5 hb5 hO5 => ?_)
  have hlt5_0 := Nat.le_trans hE4.size hb5
  have hlt5_1 := Nat.lt_of_lt_of_le hB4.lt hb5
  have hlt5_2 := Nat.le_trans hE0.size hb5
  replace hE4 := Ext.trans hE4 hE5
  replace hB4 := hB4.ext hE5
  replace h0 := h0.ext hE5
  replace hE0 := Ext.trans hE0 hE5
  refine Seg.step rfl rfl (Yd.assign rfl) ?_
  refine Seg.nil ?_
  refine At.then_ ?_
  refine Cd.seq ?_
  refine Cd.block ?_
  refine Cd.loop (σ := List (Value × Name) × (Value × Name) × Value) (fun s => [(1, v1), (2, .pointer (some ⟨b4, 0, none⟩)), (5, s.2.2)])
    (fun s w' => s.1.length ≤ 17 ∧ w'.ownsRow w4.heap.size 28 1 s.2.2 (s.1.length + 1) (s.1.map Prod.fst ++ [s.2.1.1]) ∧ (∀ p ∈ s.1 ++ [s.2.1], NameAt w p.1 p.2 ∧ Fit p.2) ∧ namesOf qt qc rs 17 qn = s.1.map Prod.snd ++ NK qt qc rs (17 - s.1.length) s.2.1.2 ∧ Ext w4 w')
    (fun s => 17 - s.1.length) ([], (.slice aq qn.length cq, qn), .slice (some ⟨b5, 0, none⟩) 1 1) (.cons rfl (.cons rfl (.cons rfl (.nil _))))
    ⟨Nat.zero_le _, hO5, fun p hp => (by cases List.mem_singleton.1 hp; exact ⟨h1, hq⟩), rfl, hE5⟩ ?_
  clear hE0 hE5 hO5 hB5 hE4 hB4 h0
  rintro ⟨ps, ⟨vn, n⟩, v⟩ w0 ⟨hlen, hO, hps, hnm, hE4⟩
  simp only at hlen hO hps hnm hE4 ⊢
  have hE0 : Ext w w0 := Ext.trans hkE hE4
  have hB4 : Bx w0 b4 [.slice aq qn.length cq, .int .i64 qt, .int .i64 qc] := Bx.ext hkB hE4
  have h0 : RecsAt w0 v1 rs := RecsAt.ext hk0 hE0
  obtain ⟨ao, c, rfl⟩ := own_shape hO
  have hS := own_sl hO
  obtain ⟨ao', c', he, hl1, hr1, hz1⟩ := id hS
  cases he
  obtain ⟨a, rfl⟩ : ∃ a, ao = some a := by
    cases ao with
    | none => have := hz1 rfl; omega
    | some a => exact ⟨a, rfl⟩
  have hR := hr1 a rfl
  have hget : (ps.map Prod.fst ++ [vn])[ps.length + 1 - 1]? = some vn := by simp
  have hone := snoc_one hps
  obtain ⟨hvn, hfn⟩ := hps (vn, n) (by simp)
  have hend : (hNK : NK qt qc rs (17 - ps.length) n = [n]) → Sl w0 1 (.slice (some a) (ps.length + 1) c) (ps ++ [(vn, n)]).length ((ps ++ [(vn, n)]).map Prod.fst) ∧ (∀ p ∈ ps ++ [(vn, n)], NameAt w p.1 p.2 ∧ Fit p.2) ∧ (ps ++ [(vn, n)]).map Prod.snd = namesOf qt qc rs 17 qn := fun hNK => by
    refine ⟨?_, hps, by rw [hnm, hNK]; simp⟩
    rw [List.length_append, List.map_append]
    exact hS
  by_cases hlt : ps.length < 17
  · have hc5 := of_any rs n v1 vn 5 qc w0 h0 (hvn.ext hE0) hf hfn hl
    have hcq := fun w1 (hE : Ext w0 w1) => of_any rs n v1 vn qt qc w1 (h0.ext hE) (hvn.ext (hE0.trans hE)) hf hfn hl
    by_cases hq0 : recsOf qt qc n rs = []
    · cases h5 : recsOf 5 qc n rs with
      | nil =>
        have hend := hend (nk_none _ hq0 h5)
        rw [h5] at hc5
        refine Cd.seq ?_
        refine Cd.seq ?_
        refine Cd.region ?_
        refine Seg.step rfl rfl (Yd.move rfl) ?_
        refine Seg.step rfl rfl (Yd.lenS rfl rfl) ?_
        refine Seg.step rfl rfl (Yd.lss rfl rfl) ?_
        refine Seg.nil ?_
        refine At.then_ ?_
        refine Cd.condk rfl (fun h14 => ?_) (fun h14 => ?_)
        · refine Cd.skip ?_
          refine At.then_ ?_
          refine Cd.block ?_
          refine Cd.seq ?_
          refine Cd.region ?_
          refine Seg.step rfl rfl (Yd.move rfl) ?_
          refine Seg.step rfl rfl (Yd.move rfl) ?_
          refine Seg.step rfl rfl (Yd.lenS rfl rfl) ?_
          refine Seg.step rfl rfl (Yd.subI rfl rfl (by omega)) ?_
          refine Seg.step rfl rfl (Yd.indexAddr1 rfl rfl rfl (NatOf.sub (NatOf.cast _) (NatOf.cast 1) (by omega)) (by omega)) ?_
          refine Seg.step rfl rfl (Yd.load1 rfl rfl (hR _ _ hget)) ?_
          refine Seg.step rfl rfl (Yd.assign rfl) ?_
          refine Seg.nil ?_
          refine At.then_ ?_
          refine Cd.seq ?_
          refine Cd.region ?_
          refine Seg.step rfl rfl (Yd.move rfl) ?_
          refine Seg.step rfl rfl (Yd.move rfl) ?_
          refine Seg.step rfl rfl (Yd.fieldAddr rfl rfl) ?_
          refine Seg.step rfl rfl (Yd.load1 rfl rfl (hB4.row _ _ rfl)) ?_
          (refine Seg.call rfl rfl (own_of rfl) rfl hc5 ?_; rintro v5 w36 ⟨h5a, hE36⟩; have hEq := hE36; obtain ⟨a5, d5, rfl⟩ := recsAt_shape h5a)
          replace hE4 := Ext.trans hE4 hE36
          replace hE0 := Ext.trans hE0 hE36
          replace hB4 := hB4.ext hE36
          replace h0 := h0.ext hE36
          replace hO := own_ext hO hE36
          replace hS := hS.ext hE36
          replace hR := hR.ext hE36
          refine Seg.step rfl rfl (Yd.assign rfl) ?_
          refine Seg.nil ?_
          refine At.then_ ?_
          refine Cd.seq ?_
          refine Cd.seq ?_
          refine Cd.region ?_
          refine Seg.step rfl rfl (Yd.move rfl) ?_
          refine Seg.step rfl rfl (Yd.move rfl) ?_
          refine Seg.step rfl rfl (Yd.fieldAddr rfl rfl) ?_
          refine Seg.step rfl rfl (Yd.load1 rfl rfl (hB4.row _ _ rfl)) ?_
          refine Seg.step rfl rfl (Yd.fieldAddr rfl rfl) ?_
          refine Seg.step rfl rfl (Yd.load1 rfl rfl (hB4.row _ _ rfl)) ?_
          (refine Seg.call rfl rfl (own_of rfl) rfl (hcq _ hEq) ?_; rintro vq5 w49 ⟨hqa, hE49⟩; rw [hq0] at hqa; obtain ⟨aq5, dq5, rfl⟩ := recsAt_shape hqa)
          replace hE36 := Ext.trans hE36 hE49
          replace hEq := Ext.trans hEq hE49
          replace h5a := h5a.ext hE49
          replace hE4 := Ext.trans hE4 hE49
          replace hE0 := Ext.trans hE0 hE49
          replace hB4 := hB4.ext hE49
          replace h0 := h0.ext hE49
          replace hO := own_ext hO hE49
          replace hS := hS.ext hE49
          replace hR := hR.ext hE49
          refine Seg.step rfl rfl (Yd.lenS rfl rfl) ?_
          refine Seg.step rfl rfl (Yd.gtr rfl rfl) ?_
          refine Seg.step rfl rfl (Yd.move rfl) ?_
          refine Seg.step rfl rfl (Yd.move rfl) ?_
          refine Seg.step rfl rfl (Yd.lenS rfl rfl) ?_
          refine Seg.step rfl rfl (Yd.eql rfl rfl) ?_
          refine Seg.step rfl rfl (Yd.pickF rfl rfl) ?_
          refine Seg.nil ?_
          refine At.then_ ?_
          refine Cd.condT rfl ?_
          refine Cd.exit ?_
          refine At.then_exit ?_
          refine At.blk_other rfl ?_
          refine At.then_exit ?_
          refine At.blk_same ?_
          refine At.then_ ?_
          refine Cd.seq ?_
          refine Cd.region ?_
          refine Seg.step rfl rfl (Yd.move rfl) ?_
          refine Seg.step rfl rfl (Yd.assign rfl) ?_
          refine Seg.nil ?_
          refine At.then_ ?_
          refine Cd.ret ?_
          exact At.ret Try.results16 (.tmp rfl .nil) ⟨⟨_, Sl.ext hend.1 (by assumption), hend.2.1, hend.2.2⟩, hE0⟩
        · exfalso; omega
      | cons r l =>
        rw [h5] at hc5
        have hr : r ∈ rs := by
          have : r ∈ recsOf 5 qc n rs := by rw [h5]; exact List.mem_cons_self
          exact (List.mem_filter.1 this).1
        have h5l : 0 < (r :: l).length := Nat.succ_pos _
        have hra := (RecsAt.ext hk0 (Ext.refl w)).2 r hr
        have honer : ∀ c ∈ [r.vt], c.oneCell' = true := fun c hc => by
          obtain rfl := List.mem_singleton.1 hc
          exact name_one hra.2.1
        refine Cd.seq ?_
        refine Cd.seq ?_
        refine Cd.region ?_
        refine Seg.step rfl rfl (Yd.move rfl) ?_
        refine Seg.step rfl rfl (Yd.lenS rfl rfl) ?_
        refine Seg.step rfl rfl (Yd.lss rfl rfl) ?_
        refine Seg.nil ?_
        refine At.then_ ?_
        refine Cd.condk rfl (fun h14 => ?_) (fun h14 => ?_)
        · refine Cd.skip ?_
          refine At.then_ ?_
          refine Cd.block ?_
          refine Cd.seq ?_
          refine Cd.region ?_
          refine Seg.step rfl rfl (Yd.move rfl) ?_
          refine Seg.step rfl rfl (Yd.move rfl) ?_
          refine Seg.step rfl rfl (Yd.lenS rfl rfl) ?_
          refine Seg.step rfl rfl (Yd.subI rfl rfl (by omega)) ?_
          refine Seg.step rfl rfl (Yd.indexAddr1 rfl rfl rfl (NatOf.sub (NatOf.cast _) (NatOf.cast 1) (by omega)) (by omega)) ?_
          refine Seg.step rfl rfl (Yd.load1 rfl rfl (hR _ _ hget)) ?_
          refine Seg.step rfl rfl (Yd.assign rfl) ?_
          refine Seg.nil ?_
          refine At.then_ ?_
          refine Cd.seq ?_
          refine Cd.region ?_
          refine Seg.step rfl rfl (Yd.move rfl) ?_
          refine Seg.step rfl rfl (Yd.move rfl) ?_
          refine Seg.step rfl rfl (Yd.fieldAddr rfl rfl) ?_
          refine Seg.step rfl rfl (Yd.load1 rfl rfl (hB4.row _ _ rfl)) ?_
          (refine Seg.call rfl rfl (own_of rfl) rfl hc5 ?_; rintro v5 w36 ⟨h5a, hE36⟩; have hEq := hE36; obtain ⟨⟨a5, d5, rfl, hl5, hr5, hz5⟩, _⟩ := h5a; obtain ⟨p5, rfl⟩ : ∃ p5, a5 = some p5 := (by cases a5 with | none => exact absurd (hz5 rfl) (by simp) | some p => exact ⟨p, rfl⟩); have hrow := hr5 _ rfl; rw [recsV_cons] at hrow)
          replace hE4 := Ext.trans hE4 hE36
          replace hE0 := Ext.trans hE0 hE36
          replace hB4 := hB4.ext hE36
          replace h0 := h0.ext hE36
          replace hO := own_ext hO hE36
          replace hS := hS.ext hE36
          replace hR := hR.ext hE36
          refine Seg.step rfl rfl (Yd.assign rfl) ?_
          refine Seg.nil ?_
          refine At.then_ ?_
          refine Cd.seq ?_
          refine Cd.seq ?_
          refine Cd.region ?_
          refine Seg.step rfl rfl (Yd.move rfl) ?_
          refine Seg.step rfl rfl (Yd.move rfl) ?_
          refine Seg.step rfl rfl (Yd.fieldAddr rfl rfl) ?_
          refine Seg.step rfl rfl (Yd.load1 rfl rfl (hB4.row _ _ rfl)) ?_
          refine Seg.step rfl rfl (Yd.fieldAddr rfl rfl) ?_
          refine Seg.step rfl rfl (Yd.load1 rfl rfl (hB4.row _ _ rfl)) ?_
          (refine Seg.call rfl rfl (own_of rfl) rfl (hcq _ hEq) ?_; rintro vq5 w49 ⟨hqa, hE49⟩; rw [hq0] at hqa; obtain ⟨aq5, dq5, rfl⟩ := recsAt_shape hqa)
          replace hE36 := Ext.trans hE36 hE49
          replace hEq := Ext.trans hEq hE49
          replace hrow := hrow.ext hE49
          replace hE4 := Ext.trans hE4 hE49
          replace hE0 := Ext.trans hE0 hE49
          replace hB4 := hB4.ext hE49
          replace h0 := h0.ext hE49
          replace hO := own_ext hO hE49
          replace hS := hS.ext hE49
          replace hR := hR.ext hE49
          refine Seg.step rfl rfl (Yd.lenS rfl rfl) ?_
          refine Seg.step rfl rfl (Yd.gtr rfl rfl) ?_
          refine Seg.step rfl rfl (Yd.move rfl) ?_
          refine Seg.step rfl rfl (Yd.move rfl) ?_
          refine Seg.step rfl rfl (Yd.lenS rfl rfl) ?_
          refine Seg.step rfl rfl (Yd.eql rfl rfl) ?_
          refine Seg.step rfl rfl (Yd.pickF rfl rfl) ?_
          refine Seg.nil ?_
          refine At.then_ ?_
          refine Cd.condF rfl ?_
          refine Cd.skip ?_
          refine At.then_ ?_
          refine Cd.region ?_
          refine Seg.step rfl rfl (Yd.move rfl) ?_
          refine Seg.step rfl rfl (Yd.move rfl) ?_
          refine Seg.step rfl rfl (Yd.indexAddr rfl rfl rfl (NatOf.cast 0) (by omega)) ?_
          refine Seg.step rfl rfl (Yd.fieldAddr' rfl rfl) ?_
          refine Seg.step rfl rfl (Yd.load1 rfl rfl (hrow _ _ rfl)) ?_
          refine Seg.buildSliceO rfl rfl rfl rfl rfl rfl rfl rfl rfl (by assumption) (fun w68 b68 hE68 hB68 hb68 hO68 => ?_)
          have hlt68_0 := Nat.le_trans hE49.size hb68
          have hlt68_1 := Nat.le_trans hE36.size hb68
          have hlt68_2 := Nat.le_trans hEq.size hb68
          have hlt68_3 := Nat.le_trans hE4.size hb68
          have hlt68_4 := Nat.le_trans hE0.size hb68
          have hlt68_5 := Nat.lt_of_lt_of_le hB4.lt hb68
          replace hE49 := Ext.trans hE49 hE68
          replace hqa := hqa.ext hE68
          replace hE36 := Ext.trans hE36 hE68
          replace hEq := Ext.trans hEq hE68
          replace hrow := hrow.ext hE68
          replace hE4 := Ext.trans hE4 hE68
          replace hE0 := Ext.trans hE0 hE68
          replace hB4 := hB4.ext hE68
          replace h0 := h0.ext hE68
          replace hO := own_ext hO hE68
          replace hS := hS.ext hE68
          replace hR := hR.ext hE68
          (refine Seg.append (news := [r.vt]) (m' := 1) rfl rfl rfl rfl rfl rfl rfl rfl rfl hO (own_sl hO68) honer (Below.size hE4) (by omega) rfl (fun v69 w69 hN hG69 _ => ?_); replace hE4 := hE4.own hO (Nat.le_refl _) hG69)
          refine Seg.step rfl rfl (Yd.assign rfl) ?_
          refine Seg.nil ?_
          refine At.blk ?_
          exact At.round (ps ++ [(vn, n)], (r.vt, r.tg), _) (.cons rfl (.cons rfl (.cons rfl (.nil _)))) ⟨by simp; omega, by simpa using hN, (fun p hp => by (rw [List.mem_append] at hp); (rcases hp with hp | hp); (exact hps p hp); (obtain rfl := List.mem_singleton.1 hp; exact ⟨hra.2.1, (hf r hr).2.1⟩)), (by rw [hnm, nk_step (by omega) hq0 h5]; simp [Nat.sub_sub]), hE4⟩ (by simp; omega)
        · exfalso; omega
    · have hend := hend (nk_recs _ hq0)
      have hlq : 0 < (recsOf qt qc n rs).length := List.length_pos_iff.2 hq0
      refine Cd.seq ?_
      refine Cd.seq ?_
      refine Cd.region ?_
      refine Seg.step rfl rfl (Yd.move rfl) ?_
      refine Seg.step rfl rfl (Yd.lenS rfl rfl) ?_
      refine Seg.step rfl rfl (Yd.lss rfl rfl) ?_
      refine Seg.nil ?_
      refine At.then_ ?_
      refine Cd.condk rfl (fun h14 => ?_) (fun h14 => ?_)
      · refine Cd.skip ?_
        refine At.then_ ?_
        refine Cd.block ?_
        refine Cd.seq ?_
        refine Cd.region ?_
        refine Seg.step rfl rfl (Yd.move rfl) ?_
        refine Seg.step rfl rfl (Yd.move rfl) ?_
        refine Seg.step rfl rfl (Yd.lenS rfl rfl) ?_
        refine Seg.step rfl rfl (Yd.subI rfl rfl (by omega)) ?_
        refine Seg.step rfl rfl (Yd.indexAddr1 rfl rfl rfl (NatOf.sub (NatOf.cast _) (NatOf.cast 1) (by omega)) (by omega)) ?_
        refine Seg.step rfl rfl (Yd.load1 rfl rfl (hR _ _ hget)) ?_
        refine Seg.step rfl rfl (Yd.assign rfl) ?_
        refine Seg.nil ?_
        refine At.then_ ?_
        refine Cd.seq ?_
        refine Cd.region ?_
        refine Seg.step rfl rfl (Yd.move rfl) ?_
        refine Seg.step rfl rfl (Yd.move rfl) ?_
        refine Seg.step rfl rfl (Yd.fieldAddr rfl rfl) ?_
        refine Seg.step rfl rfl (Yd.load1 rfl rfl (hB4.row _ _ rfl)) ?_
        (refine Seg.call rfl rfl (own_of rfl) rfl hc5 ?_; rintro v5 w36 ⟨h5a, hE36⟩; have hEq := hE36; obtain ⟨a5, d5, rfl⟩ := recsAt_shape h5a)
        replace hE4 := Ext.trans hE4 hE36
        replace hE0 := Ext.trans hE0 hE36
        replace hB4 := hB4.ext hE36
        replace h0 := h0.ext hE36
        replace hO := own_ext hO hE36
        replace hS := hS.ext hE36
        replace hR := hR.ext hE36
        refine Seg.step rfl rfl (Yd.assign rfl) ?_
        refine Seg.nil ?_
        refine At.then_ ?_
        refine Cd.seq ?_
        refine Cd.seq ?_
        refine Cd.region ?_
        refine Seg.step rfl rfl (Yd.move rfl) ?_
        refine Seg.step rfl rfl (Yd.move rfl) ?_
        refine Seg.step rfl rfl (Yd.fieldAddr rfl rfl) ?_
        refine Seg.step rfl rfl (Yd.load1 rfl rfl (hB4.row _ _ rfl)) ?_
        refine Seg.step rfl rfl (Yd.fieldAddr rfl rfl) ?_
        refine Seg.step rfl rfl (Yd.load1 rfl rfl (hB4.row _ _ rfl)) ?_
        (refine Seg.call rfl rfl (own_of rfl) rfl (hcq _ hEq) ?_; rintro vq5 w49 ⟨hqa, hE49⟩; obtain ⟨aq5, dq5, rfl⟩ := recsAt_shape hqa)
        replace hE36 := Ext.trans hE36 hE49
        replace hEq := Ext.trans hEq hE49
        replace h5a := h5a.ext hE49
        replace hE4 := Ext.trans hE4 hE49
        replace hE0 := Ext.trans hE0 hE49
        replace hB4 := hB4.ext hE49
        replace h0 := h0.ext hE49
        replace hO := own_ext hO hE49
        replace hS := hS.ext hE49
        replace hR := hR.ext hE49
        refine Seg.step rfl rfl (Yd.lenS rfl rfl) ?_
        refine Seg.step rfl rfl (Yd.gtr rfl rfl) ?_
        refine Seg.step rfl rfl (Yd.move rfl) ?_
        refine Seg.gsplitp rfl rfl (fun h53 => ?_) (fun h53 => ?_)
        · refine Seg.skip rfl rfl ?_
          refine Seg.skip rfl rfl ?_
          refine Seg.skip rfl rfl ?_
          refine Seg.step rfl rfl (Yd.pickT rfl rfl) ?_
          refine Seg.nil ?_
          refine At.then_ ?_
          refine Cd.condT rfl ?_
          refine Cd.exit ?_
          refine At.then_exit ?_
          refine At.blk_other rfl ?_
          refine At.then_exit ?_
          refine At.blk_same ?_
          refine At.then_ ?_
          refine Cd.seq ?_
          refine Cd.region ?_
          refine Seg.step rfl rfl (Yd.move rfl) ?_
          refine Seg.step rfl rfl (Yd.assign rfl) ?_
          refine Seg.nil ?_
          refine At.then_ ?_
          refine Cd.ret ?_
          exact At.ret Try.results16 (.tmp rfl .nil) ⟨⟨_, Sl.ext hend.1 (by assumption), hend.2.1, hend.2.2⟩, hE0⟩
        · exfalso; omega
      · exfalso; omega
  · have hend := hend (by rw [show 17 - ps.length = 0 by omega]; rfl)
    refine Cd.seq ?_
    refine Cd.seq ?_
    refine Cd.region ?_
    refine Seg.step rfl rfl (Yd.move rfl) ?_
    refine Seg.step rfl rfl (Yd.lenS rfl rfl) ?_
    refine Seg.step rfl rfl (Yd.lss rfl rfl) ?_
    refine Seg.nil ?_
    refine At.then_ ?_
    refine Cd.condk rfl (fun h14 => ?_) (fun h14 => ?_)
    · exfalso; omega
    · refine Cd.exit ?_
      refine At.then_exit ?_
      refine At.then_exit ?_
      refine At.blk_same ?_
      refine At.then_ ?_
      refine Cd.seq ?_
      refine Cd.region ?_
      refine Seg.step rfl rfl (Yd.move rfl) ?_
      refine Seg.step rfl rfl (Yd.assign rfl) ?_
      refine Seg.nil ?_
      refine At.then_ ?_
      refine Cd.ret ?_
      exact At.ret Try.results16 (.tmp rfl .nil) ⟨⟨_, hend.1, hend.2.1, hend.2.2⟩, hE0⟩
end Go.Proofs.Ytidhelgoopdloaa
