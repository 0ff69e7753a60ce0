/- The walk of chain.Follow. -/
import Derived.Test.YtidhelgoopdloaaFol
namespace Go.Proofs.Ytidhelgoopdloaa
open Go Go.RowKit
structure Out where
  nm : Name
  rs : List Rec
  ttl : Int
  links : Int
  e : Int
def leastAll : Bool → Int → List Rec → Int
  | _, t, [] => t
  | c, t, r :: rs => leastAll true (leastOf c t r.ttl) rs
/-- What a chain leads to, k hops left. -/
def fol (qt qc : Int) (rs : List Rec) : Nat → Name → Bool → Int → Out
  | k, n, c, t =>
    if recsOf qt qc n rs ≠ [] then ⟨n, recsOf qt qc n rs, leastAll c t (recsOf qt qc n rs), 16 - k, 0⟩
    else if linkTo qt qc n rs rs.length < 0 then ⟨n, [], 0, 16 - k, 11⟩
    else match k with
      | 0 => ⟨[], [], 0, 0, 15⟩
      | k + 1 => match rs[(linkTo qt qc n rs rs.length).toNat]? with
        | none => ⟨[], [], 0, 0, 0⟩
        | some r => fol qt qc rs k r.tg true (leastOf c t r.ttl)
section
variable {qt qc : Int} {rs : List Rec} {n : Name} {c : Bool} {t : Int}
theorem fol_recs (k : Nat) (h : recsOf qt qc n rs ≠ []) : fol qt qc rs k n c t = ⟨n, recsOf qt qc n rs, leastAll c t (recsOf qt qc n rs), 16 - k, 0⟩ := by
  unfold fol
  rw [if_pos h]
theorem fol_none (k : Nat) (h : recsOf qt qc n rs = []) (h' : linkTo qt qc n rs rs.length < 0) : fol qt qc rs k n c t = ⟨n, [], 0, 16 - k, 11⟩ := by
  unfold fol
  rw [if_neg (fun e => e h), if_pos h']
theorem fol_loop (h : recsOf qt qc n rs = []) (h' : ¬ linkTo qt qc n rs rs.length < 0) : fol qt qc rs 0 n c t = ⟨[], [], 0, 0, 15⟩ := by
  unfold fol
  rw [if_neg (fun e => e h), if_neg h']
theorem fol_step (k : Nat) {j : Nat} {r : Rec} (h : recsOf qt qc n rs = []) (h' : linkTo qt qc n rs rs.length = j) (hr : rs[j]? = some r) : fol qt qc rs (k + 1) n c t = fol qt qc rs k r.tg true (leastOf c t r.ttl) := by
  rw [fol, if_neg (fun e => e h), if_neg (by omega), h']
  simp only [Int.toNat_natCast, hr]
end
theorem RecsAt.nil (w : World) : RecsAt w (.slice none 0 0) [] := ⟨Sl.nil w 33, fun _ h => by cases h⟩
/-- What chain.Follow gives back. -/
def FoundAt (o : Out) (v : Value) (w : World) : Prop := ∃ vn vr, v = .tuple #[.agg #[vn, vr, .int .i64 o.ttl, .int .i64 o.links], .int .i64 o.e] ∧ NameAt w vn o.nm ∧ RecsAt w vr o.rs
theorem linkTo_lt (qt qc : Int) (n : Name) (rs : List Rec) : ∀ i, i ≤ rs.length → linkTo qt qc n rs i < i
  | 0, _ => by simp [linkTo]
  | i + 1, h => by
    have ih := linkTo_lt qt qc n rs i (by omega)
    rw [linkTo]
    split
    · split <;> omega
    · omega
theorem recsAt_shape {w : World} {v : Value} {rs : List Rec} (h : RecsAt w v rs) : ∃ ao c, v = .slice ao rs.length c := by
  obtain ⟨⟨ao, c, rfl, _⟩, _⟩ := h
  exact ⟨ao, c, rfl⟩
theorem name_shape {w : World} {v : Value} {xs : Name} (h : NameAt w v xs) : ∃ ao c, v = .slice ao xs.length c := by
  obtain ⟨ao, c, rfl, _⟩ := h
  exact ⟨ao, c, rfl⟩
set_option maxHeartbeats 1000000 in
theorem follow_any (rs : List Rec) (qn : Name) (vq v1 : Value) (qt qc : Int) (w : World) (h0 : RecsAt w v1 rs) (h1 : NameAt w vq qn) (hf : ∀ r ∈ rs, FitR r) (hq : Fit qn) (hl : rs.length ≤ 1000) :
    Ret Try.prog 14 #[.agg #[vq, .int .i64 qt, .int .i64 qc], v1] w fun v w' => FoundAt (fol qt qc rs 16 qn false 0) v w' ∧ Ext w w' := by
  have hE0 := Ext.refl w
  obtain ⟨⟨ao, c, rfl, hl0, hr0, hz0⟩, hrec⟩ := h0
  refine Ret.body Try.func14 rfl Try.ntmps14 rfl ?_
  refine Cd.seq ?_
  refine Cd.region ?_
  refine Seg.box rfl rfl rfl (fun w4 b4 hE4 hB4 hb4 => ?_)
  have hlt4_0 := Nat.le_trans hE0.size hb4
  replace hE0 := Ext.trans hE0 hE4
  refine Seg.alloc rfl rfl rfl (fun w5 b5 hE5 hB5 hb5 => ?_)
  have hlt5_0 := Nat.le_trans hE4.size hb5
  have hlt5_1 := Nat.lt_of_lt_of_le hB4.lt hb5
  have hlt5_2 := Nat.le_trans hE0.size hb5
  replace hE4 := Ext.trans hE4 hE5
  replace hB4 := hB4.ext hE5
  replace hE0 := Ext.trans hE0 hE5
  refine Seg.step rfl rfl (Yd.assign rfl) ?_
  refine Seg.nil ?_
  refine At.then_ ?_
  refine Cd.seq ?_
  refine Cd.region ?_
  refine Seg.step rfl rfl (Yd.fieldAddr rfl rfl) ?_
  refine Seg.step rfl rfl (Yd.load1 rfl rfl (hB4.row _ _ rfl)) ?_
  refine Seg.step rfl rfl (Yd.assign rfl) ?_
  refine Seg.nil ?_
  refine At.then_ ?_
  refine Cd.seq ?_
  refine Cd.region ?_
  refine Seg.alloc rfl rfl rfl (fun w18 b18 hE18 hB18 hb18 => ?_)
  have hlt18_0 := Nat.le_trans hE5.size hb18
  have hlt18_1 := Nat.lt_of_lt_of_le hB5.lt hb18
  have hlt18_2 := Nat.le_trans hE4.size hb18
  have hlt18_3 := Nat.lt_of_lt_of_le hB4.lt hb18
  have hlt18_4 := Nat.le_trans hE0.size hb18
  replace hE5 := Ext.trans hE5 hE18
  replace hB5 := hB5.ext hE18
  replace hE4 := Ext.trans hE4 hE18
  replace hB4 := hB4.ext hE18
  replace hE0 := Ext.trans hE0 hE18
  refine Seg.alloc rfl rfl rfl (fun w19 b19 hE19 hB19 hb19 => ?_)
  have hlt19_0 := Nat.le_trans hE18.size hb19
  have hlt19_1 := Nat.lt_of_lt_of_le hB18.lt hb19
  have hlt19_2 := Nat.le_trans hE5.size hb19
  have hlt19_3 := Nat.lt_of_lt_of_le hB5.lt hb19
  have hlt19_4 := Nat.le_trans hE4.size hb19
  have hlt19_5 := Nat.lt_of_lt_of_le hB4.lt hb19
  have hlt19_6 := Nat.le_trans hE0.size hb19
  replace hE18 := Ext.trans hE18 hE19
  replace hB18 := hB18.ext hE19
  replace hE5 := Ext.trans hE5 hE19
  replace hB5 := hB5.ext hE19
  replace hE4 := Ext.trans hE4 hE19
  replace hB4 := hB4.ext hE19
  replace hE0 := Ext.trans hE0 hE19
  refine Seg.store1h rfl rfl rfl rfl rfl hB18 (by first | omega | (simp; done) | exact Nat.le_of_ble_eq_true rfl) (fun w20 hW20 hB20 => ?_)
  clear hB18
  replace hB19 := hB19.wr hW20 (by omega)
  replace hE18 := Ext.wr' hE18 hW20 (by omega)
  replace hE5 := Ext.wr' hE5 hW20 (by omega)
  replace hB5 := hB5.wr hW20 (by omega)
  replace hE4 := Ext.wr' hE4 hW20 (by omega)
  replace hB4 := hB4.wr hW20 (by omega)
  replace hE0 := Ext.wr' hE0 hW20 (by omega)
  refine Seg.store1h rfl rfl rfl rfl rfl hB19 (by first | omega | (simp; done) | exact Nat.le_of_ble_eq_true rfl) (fun w21 hW21 hB21 => ?_)
  clear hB19
  replace hB20 := hB20.wr hW21 (by omega)
  replace hE18 := Ext.wr' hE18 hW21 (by omega)
  replace hE5 := Ext.wr' hE5 hW21 (by omega)
  replace hB5 := hB5.wr hW21 (by omega)
  replace hE4 := Ext.wr' hE4 hW21 (by omega)
  replace hB4 := hB4.wr hW21 (by omega)
  replace hE0 := Ext.wr' hE0 hW21 (by omega)
  refine Seg.nil ?_
  refine At.then_ ?_
  refine Cd.seq ?_
  refine Cd.region ?_
  refine Seg.step rfl rfl (Yd.makeFunc rfl rfl) ?_
  refine Seg.step rfl rfl (Yd.assign rfl) ?_
  refine Seg.nil ?_
  refine At.then_ ?_
  refine Cd.seq ?_
  refine Cd.region ?_
  refine Seg.step rfl rfl (Yd.assign rfl) ?_
  refine Seg.nil ?_
  refine At.then_ ?_
  refine Cd.block ?_
  have hh : b4 < b5 ∧ b5 < b18 ∧ b18 < b19 ∧ w.heap.size ≤ b4 ∧ w.heap.size ≤ b5 ∧ w.heap.size ≤ b18 ∧ w.heap.size ≤ b19 := by omega
  refine Cd.loop (σ := Nat × Value × Name × Bool × Int × Int) (fun s => [(1, .slice ao rs.length c), (2, .pointer (some ⟨b4, 0, none⟩)), (4, .pointer (some ⟨b5, 0, none⟩)), (5, .int .i64 0), (6, s.2.1), (7, .pointer (some ⟨b18, 0, none⟩)), (8, .pointer (some ⟨b19, 0, none⟩)),
      (9, .func (.func 24) #[] #[.pointer (some ⟨b19, 0, none⟩), .pointer (some ⟨b18, 0, none⟩)]), (10, .int .i64 s.2.2.2.2.2)])
    (fun s w' => s.1 ≤ 16 ∧ NameAt w s.2.1 s.2.2.1 ∧ Fit s.2.2.1 ∧ fol qt qc rs 16 qn false 0 = fol qt qc rs s.1 s.2.2.1 s.2.2.2.1 s.2.2.2.2.1 ∧ s.2.2.2.2.2 = 16 - (s.1 : Int) ∧ Bx w' b4 [vq, .int .i64 qt, .int .i64 qc] ∧ Bx w' b5 zT42.cells.toList ∧ Bx w' b18 [.int .i64 s.2.2.2.2.1] ∧ Bx w' b19 [.bool s.2.2.2.1] ∧ Ext w w')
    (fun s => s.1) (16, vq, qn, false, 0, 0) (.cons rfl (.cons rfl (.cons rfl (.cons rfl (.cons rfl (.cons rfl (.cons rfl (.cons rfl (.cons rfl (.nil _)))))))))) ⟨Nat.le_refl _, h1, hq, rfl, rfl, hB4, hB5, hB20, hB21, hE0⟩ ?_
  clear hb4 hlt4_0 hb5 hlt5_0 hlt5_1 hlt5_2 hb18 hlt18_0 hlt18_1 hlt18_2 hlt18_3 hlt18_4 hE19 hb19 hlt19_0 hlt19_1 hlt19_2 hlt19_3 hlt19_4 hlt19_5 hlt19_6 hW20 hW21 hB21 hB20 hE18 hE5 hB5 hE4 hB4 hE0
  have h0 : RecsAt w (.slice ao rs.length c) rs := ⟨⟨ao, c, rfl, hl0, hr0, hz0⟩, hrec⟩
  rintro ⟨k, v, n, cc, t, L⟩ w0 ⟨hk, hn, hfn, hfol, hL, hB4, hB5, hB18, hB19, hE0⟩
  simp only at hk hn hfn hfol hL hB4 hB5 hB18 hB19 ⊢
  have hbw : b19 < w0.heap.size := hB19.lt
  have hll := linkTo_lt qt qc n rs rs.length (Nat.le_refl _)
  have hR : 0 < (recsOf qt qc n rs).length ∨ (recsOf qt qc n rs).length = 0 := by omega
  rcases hR with hR | hR
  · have hne : recsOf qt qc n rs ≠ [] := fun e => by rw [e] at hR; cases hR
    refine Cd.seq ?_
    refine Cd.block ?_
    refine Cd.seq ?_
    refine Cd.region ?_
    refine Seg.step rfl rfl (Yd.loadN rfl rfl rfl hB4.row) ?_
    refine Seg.step rfl rfl (Yd.move rfl) ?_
    refine Seg.step rfl rfl (Yd.move rfl) ?_
    (refine Seg.call rfl rfl (own_of rfl) rfl (look_any rs n v _ vq qt qc _ (h0.ext hE0) (hn.ext hE0) hf hl) ?_; rintro _ w29 ⟨⟨vr, rfl, hvr, har⟩, hE29⟩; obtain ⟨ar, cr, rfl⟩ := recsAt_shape hvr)
    replace hB4 := hB4.ext hE29
    replace hB5 := hB5.ext hE29
    replace hB18 := hB18.ext hE29
    replace hB19 := hB19.ext hE29
    replace hE0 := Ext.trans hE0 hE29
    refine Seg.step rfl rfl (Yd.move rfl) ?_
    refine Seg.step rfl rfl (Yd.extract rfl rfl) ?_
    refine Seg.step rfl rfl (Yd.extract rfl rfl) ?_
    refine Seg.step rfl rfl (Yd.assign rfl) ?_
    refine Seg.step rfl rfl (Yd.assign rfl) ?_
    refine Seg.nil ?_
    refine At.then_ ?_
    refine Cd.seq ?_
    refine Cd.seq ?_
    refine Cd.region ?_
    refine Seg.step rfl rfl (Yd.move rfl) ?_
    refine Seg.step rfl rfl (Yd.lenS rfl rfl) ?_
    refine Seg.step rfl rfl (Yd.gtr rfl rfl) ?_
    refine Seg.nil ?_
    refine At.then_ ?_
    refine Cd.condk rfl (fun h45 => ?_) (fun h45 => ?_)
    rotate_left 1
    · exfalso; omega
    rotate_right 1
    refine Cd.seq ?_
    refine Cd.seq ?_
    refine Cd.region ?_
    refine Seg.step rfl rfl (Yd.move rfl) ?_
    refine Seg.step rfl rfl (Yd.lenS rfl rfl) ?_
    refine Seg.step rfl rfl (Yd.move rfl) ?_
    refine Seg.nil ?_
    refine At.then_ ?_
    refine Cd.block ?_
    have hS : SlB w29 w0.heap.size w29.heap.size 33 (.slice ar (recsOf qt qc n rs).length cr) (recsOf qt qc n rs).length (recsV (recsOf qt qc n rs)) := ⟨hvr.1, har, hvr.1.lt⟩
    have hsub : ∀ r ∈ recsOf qt qc n rs, RecAt w r := fun r hr => hrec r (List.mem_filter.1 hr).1
    have hw29 := hE29.size
    have hRl := recsOf_le qt qc n rs
    generalize hRR : recsOf qt qc n rs = R at *
    refine Cd.loop (σ := Nat × Bool × Int) (fun s => [(4, .pointer (some ⟨b5, 0, none⟩)), (6, v), (7, .pointer (some ⟨b18, 0, none⟩)), (8, .pointer (some ⟨b19, 0, none⟩)), (9, .func (.func 24) #[] #[.pointer (some ⟨b19, 0, none⟩), .pointer (some ⟨b18, 0, none⟩)]), (10, .int .i64 L),
        (11, .slice ar R.length cr), (30, .slice ar R.length cr), (31, .int .i64 R.length), (32, .int .i64 s.1)])
      (fun s w' => s.1 ≤ R.length ∧ leastAll cc t R = leastAll s.2.1 s.2.2 (R.drop s.1) ∧ SlB w' w0.heap.size w29.heap.size 33 (.slice ar R.length cr) R.length (recsV R) ∧ Bx w' b5 zT42.cells.toList ∧ Bx w' b18 [.int .i64 s.2.2] ∧ Bx w' b19 [.bool s.2.1] ∧ Ext w w' ∧ Big w29.heap.size w')
      (fun s => R.length - s.1) (0, cc, t) (.cons rfl (.cons rfl (.cons rfl (.cons rfl (.cons rfl (.cons rfl (.cons rfl (.cons rfl (.cons rfl (.cons rfl (.nil _))))))))))) ⟨Nat.zero_le _, rfl, hS, hB5, hB18, hB19, hE0, Nat.le_refl _⟩ ?_
    clear hS hB4 hB5 hB18 hB19 hE0 hE29 hvr
    rintro ⟨j, c1, t1⟩ w1 ⟨hj, hle, hS, hB5, hB18, hB19, hE0, hbig⟩
    have hsz : w29.heap.size ≤ w1.heap.size := hbig
    simp only at hj hle hS hB5 hB18 hB19 ⊢
    by_cases hlt : j < R.length
    · obtain ⟨⟨ar', cr', he, hl1, hr1, hz1⟩, _⟩ := id hS
      cases he
      obtain ⟨a, rfl⟩ : ∃ a, ar = some a := by
        cases ar with
        | none => have := hz1 rfl; omega
        | some a => exact ⟨a, rfl⟩
      obtain ⟨r, hri⟩ : ∃ r, R[j]? = some r := ⟨_, List.getElem?_eq_getElem hlt⟩
      have hmem := List.mem_of_getElem? hri
      have hrow := recs_part (hr1 a rfl) hri
      have hone := rec_one (hsub r hmem)
      have hdrop : R.drop j = r :: R.drop (j + 1) := by
        rw [List.drop_eq_getElem_cons hlt]
        rw [List.getElem?_eq_getElem hlt] at hri
        cases hri
        rfl
      refine Cd.seq ?_
      refine Cd.region ?_
      refine Seg.step rfl rfl (Yd.lss rfl rfl) ?_
      refine Seg.nil ?_
      refine At.then_ ?_
      refine Cd.seq ?_
      refine Cd.condk rfl (fun h52 => ?_) (fun h52 => ?_)
      · refine Cd.skip ?_
        refine At.then_ ?_
        refine Cd.seq ?_
        refine Cd.block ?_
        refine Cd.seq ?_
        refine Cd.region ?_
        refine Seg.step rfl rfl (Yd.indexAddr rfl rfl rfl (NatOf.cast _) (by omega)) ?_
        refine Seg.step rfl rfl (Yd.loadN rfl rfl rfl hrow) ?_
        refine Seg.alloc rfl rfl rfl (fun w62 b62 hE62 hB62 hb62 => ?_)
        have hlt62_0 := Nat.lt_of_lt_of_le hB5.lt hb62
        have hlt62_1 := Nat.lt_of_lt_of_le hB18.lt hb62
        have hlt62_2 := Nat.lt_of_lt_of_le hB19.lt hb62
        have hlt62_3 := Nat.le_trans hE0.size hb62
        replace hB5 := hB5.ext hE62
        replace hB18 := hB18.ext hE62
        replace hB19 := hB19.ext hE62
        replace hE0 := Ext.trans hE0 hE62
        replace hbig := hbig.ext hE62
        replace hS := hS.ext hE62
        replace hrow := hrow.ext hE62
        refine Seg.storeN rfl rfl rfl rfl hB62 rfl (by first | assumption | exact List.all_eq_true.1 rfl) (fun w63 hW63 hB63 => ?_)
        clear hB62
        replace hE62 := Ext.wr' hE62 hW63 (by omega)
        replace hB5 := hB5.wr hW63 (by omega)
        replace hB18 := hB18.wr hW63 (by omega)
        replace hB19 := hB19.wr hW63 (by omega)
        replace hE0 := Ext.wr' hE0 hW63 (by omega)
        replace hbig := hbig.wr hW63 (by omega)
        replace hS := hS.wr hW63 (by omega)
        refine Seg.nil ?_
        refine At.then_ ?_
        refine Cd.region ?_
        refine Seg.step rfl rfl (Yd.move rfl) ?_
        refine Seg.step rfl rfl (Yd.fieldAddr rfl rfl) ?_
        refine Seg.step rfl rfl (Yd.load1 rfl rfl (hB63.row _ _ rfl)) ?_
        (refine Seg.callv (first := []) rfl rfl rfl (own_of rfl) rfl (least_any b19 b18 c1 t1 r.ttl _ hB19 hB18 (by omega)) ?_; rintro _ w70 ⟨hC70, hT70, m70, hWa70, hW70⟩; clear hB18 hB19; replace hE0 := (hE0.wr' hWa70 (by omega)).wr' hW70 (by omega); replace hB5 := (hB5.wr hWa70 (by omega)).wr hW70 (by omega); replace hS := (hS.wr hWa70 (by omega)).wr hW70 (by omega); replace hbig := (hbig.wr hWa70 (Nat.zero_le _)).wr hW70 (Nat.zero_le _))
        refine Seg.nil ?_
        refine At.blk ?_
        refine At.then_ ?_
        refine Cd.region ?_
        refine Seg.step rfl rfl (Yd.addI rfl rfl (by omega)) ?_
        refine Seg.step rfl rfl (Yd.move rfl) ?_
        refine Seg.nil ?_
        exact At.round (j + 1, true, leastOf c1 t1 r.ttl) (.cons rfl (.cons rfl (.cons rfl (.cons rfl (.cons rfl (.cons rfl (.cons rfl (.cons rfl (.cons rfl (.cons rfl (.nil _))))))))))) ⟨by show j + 1 ≤ _; omega, by show _ = leastAll true (leastOf c1 t1 r.ttl) (R.drop (j + 1)); rw [hle, hdrop]; rfl, hS, hB5, by assumption, by assumption, hE0, hbig⟩ (by show _ - _ < _ - _; omega)
      · exfalso; omega
    · obtain rfl : j = R.length := by omega
      refine Cd.seq ?_
      refine Cd.region ?_
      refine Seg.step rfl rfl (Yd.lss rfl rfl) ?_
      refine Seg.nil ?_
      refine At.then_ ?_
      refine Cd.seq ?_
      refine Cd.condk rfl (fun h52 => ?_) (fun h52 => ?_)
      · exfalso; omega
      refine Cd.exit ?_
      refine At.then_exit ?_
      refine At.then_exit ?_
      refine At.blk_same ?_
      refine At.then_ ?_
      refine Cd.seq ?_
      have hle' : leastAll cc t R = t1 := by rw [hle, List.drop_length]; rfl
      have hlt5' := hB5.lt
      refine Cd.any (by kernel_rfl) ?_
      refine SegA.pure 0 rfl (by kernel_rfl) (by kernel_rfl) (by kernel_rfl) rfl rfl (fun _ => Yd.move rfl) ?_
      refine SegA.pure 2 rfl (by kernel_rfl) (by kernel_rfl) (by kernel_rfl) rfl rfl (fun _ => Yd.move rfl) ?_
      refine SegA.pure 4 rfl (by kernel_rfl) (by kernel_rfl) (by kernel_rfl) rfl rfl (fun _ => Yd.move rfl) ?_
      have hd := Ext.drew w1
      replace hS := hS.ext hd
      replace hB5 := hB5.ext hd
      replace hB18 := hB18.ext hd
      replace hE0 := hE0.trans hd
      replace hlt5' : b5 < w1.drew.heap.size := hB5.lt
      refine SegA.two (i := 1) (j := 3) (by kernel_rfl) ?_ ?_
      · refine SegP.call rfl rfl rfl (own_of rfl) rfl (clone_any n v _ (hn.ext hE0) hfn.1) ?_
        rintro vx w62 ⟨hvx, hax, hE62⟩
        obtain ⟨ax, cx, rfl⟩ := name_shape hvx
        replace hS := hS.ext hE62
        replace hB5 := hB5.ext hE62
        replace hB18 := hB18.ext hE62
        replace hE0 := hE0.trans hE62
        refine SegA.one 3 rfl (by kernel_rfl) rfl rfl (Yd.load1 rfl rfl hB18.row.head) ?_
        refine SegA.one 5 rfl (by kernel_rfl) rfl rfl (Yd.build rfl rfl rfl rfl) ?_
        refine SegA.storeN 6 rfl (by kernel_rfl) rfl rfl rfl rfl hB5 rfl (List.all_eq_true.1 rfl) (fun w6 hW6 hB6 => ?_)
        refine SegA.one 7 rfl (by kernel_rfl) rfl rfl (Yd.assign rfl) ?_
        refine SegA.done (by kernel_rfl) ?_
        refine At.then_ ?_
        refine Cd.ret ?_
        refine At.then_ret ?_
        refine At.blk_ret ?_
        refine At.then_ret ?_
        refine At.then_ret ?_
        refine At.blk_ret ?_
        exact At.ret Try.results14 (.cell rfl (run_loadVarN rfl rfl hB6.row) (.tmp rfl .nil)) ⟨⟨_, _, by rw [hfol, fol_recs k (by rw [hRR]; exact hne), hRR, hle', ← hL]; rfl, by rw [hfol, fol_recs k (by rw [hRR]; exact hne)]; exact hvx.wr_above hax hW6 hlt5', by rw [hfol, fol_recs k (by rw [hRR]; exact hne), hRR]; exact ⟨(hS.wr hW6 (.inl (by omega))).1, fun r hr => (hsub r hr).ext (hE0.wr' hW6 (by omega))⟩⟩, hE0.wr' hW6 (by omega)⟩
      · refine SegP.val rfl rfl rfl (Yd.load1 rfl rfl hB18.row.head) ?_
        refine SegA.oneCall 1 rfl (by kernel_rfl) rfl rfl (own_of rfl) rfl (clone_any n v _ (hn.ext hE0) hfn.1) ?_
        rintro vx w62 ⟨hvx, hax, hE62⟩
        obtain ⟨ax, cx, rfl⟩ := name_shape hvx
        replace hS := hS.ext hE62
        replace hB5 := hB5.ext hE62
        replace hB18 := hB18.ext hE62
        replace hE0 := hE0.trans hE62
        refine SegA.one 5 rfl (by kernel_rfl) rfl rfl (Yd.build rfl rfl rfl rfl) ?_
        refine SegA.storeN 6 rfl (by kernel_rfl) rfl rfl rfl rfl hB5 rfl (List.all_eq_true.1 rfl) (fun w6 hW6 hB6 => ?_)
        refine SegA.one 7 rfl (by kernel_rfl) rfl rfl (Yd.assign rfl) ?_
        refine SegA.done (by kernel_rfl) ?_
        refine At.then_ ?_
        refine Cd.ret ?_
        refine At.then_ret ?_
        refine At.blk_ret ?_
        refine At.then_ret ?_
        refine At.then_ret ?_
        refine At.blk_ret ?_
        exact At.ret Try.results14 (.cell rfl (run_loadVarN rfl rfl hB6.row) (.tmp rfl .nil)) ⟨⟨_, _, by rw [hfol, fol_recs k (by rw [hRR]; exact hne), hRR, hle', ← hL]; rfl, by rw [hfol, fol_recs k (by rw [hRR]; exact hne)]; exact hvx.wr_above hax hW6 hlt5', by rw [hfol, fol_recs k (by rw [hRR]; exact hne), hRR]; exact ⟨(hS.wr hW6 (.inl (by omega))).1, fun r hr => (hsub r hr).ext (hE0.wr' hW6 (by omega))⟩⟩, hE0.wr' hW6 (by omega)⟩
  · have hne : recsOf qt qc n rs = [] := List.eq_nil_of_length_eq_zero hR
    by_cases hneg : linkTo qt qc n rs rs.length < 0
    · refine Cd.seq ?_
      refine Cd.block ?_
      refine Cd.seq ?_
      refine Cd.region ?_
      refine Seg.step rfl rfl (Yd.loadN rfl rfl rfl hB4.row) ?_
      refine Seg.step rfl rfl (Yd.move rfl) ?_
      refine Seg.step rfl rfl (Yd.move rfl) ?_
      (refine Seg.call rfl rfl (own_of rfl) rfl (look_any rs n v _ vq qt qc _ (h0.ext hE0) (hn.ext hE0) hf hl) ?_; rintro _ w29 ⟨⟨vr, rfl, hvr, har⟩, hE29⟩; obtain ⟨ar, cr, rfl⟩ := recsAt_shape hvr)
      replace hB4 := hB4.ext hE29
      replace hB5 := hB5.ext hE29
      replace hB18 := hB18.ext hE29
      replace hB19 := hB19.ext hE29
      replace hE0 := Ext.trans hE0 hE29
      refine Seg.step rfl rfl (Yd.move rfl) ?_
      refine Seg.step rfl rfl (Yd.extract rfl rfl) ?_
      refine Seg.step rfl rfl (Yd.extract rfl rfl) ?_
      refine Seg.step rfl rfl (Yd.assign rfl) ?_
      refine Seg.step rfl rfl (Yd.assign rfl) ?_
      refine Seg.nil ?_
      refine At.then_ ?_
      refine Cd.seq ?_
      refine Cd.seq ?_
      refine Cd.region ?_
      refine Seg.step rfl rfl (Yd.move rfl) ?_
      refine Seg.step rfl rfl (Yd.lenS rfl rfl) ?_
      refine Seg.step rfl rfl (Yd.gtr rfl rfl) ?_
      refine Seg.nil ?_
      refine At.then_ ?_
      refine Cd.condk rfl (fun h45 => ?_) (fun h45 => ?_)
      · exfalso; omega
      · refine Cd.skip ?_
        refine At.then_ ?_
        refine Cd.seq ?_
        refine Cd.seq ?_
        refine Cd.region ?_
        refine Seg.step rfl rfl (Yd.move rfl) ?_
        refine Seg.step rfl rfl (Yd.lss rfl rfl) ?_
        refine Seg.nil ?_
        refine At.then_ ?_
        refine Cd.condk rfl (fun h56 => ?_) (fun h56 => ?_)
        · refine Cd.seq ?_
          refine Cd.region ?_
          refine Seg.step rfl rfl (Yd.move rfl) ?_
          (refine Seg.call rfl rfl (own_of rfl) rfl (clone_any n v _ (hn.ext hE0) hfn.1) ?_; have hlt5' := hB5.lt; rintro vx w61 ⟨hvx, hax, hE61⟩; obtain ⟨ax, cx, rfl⟩ := name_shape hvx)
          replace hE29 := Ext.trans hE29 hE61
          replace hvr := hvr.ext hE61
          replace hB4 := hB4.ext hE61
          replace hB5 := hB5.ext hE61
          replace hB18 := hB18.ext hE61
          replace hB19 := hB19.ext hE61
          replace hE0 := Ext.trans hE0 hE61
          refine Seg.step rfl rfl (Yd.move rfl) ?_
          refine Seg.step rfl rfl (Yd.build rfl rfl rfl rfl) ?_
          refine Seg.storeN rfl rfl rfl rfl hB5 rfl (by first | assumption | exact List.all_eq_true.1 rfl) (fun w64 hW64 hB64 => ?_)
          clear hB5
          replace hB4 := hB4.wr hW64 (by omega)
          replace hB18 := hB18.wr hW64 (by omega)
          replace hB19 := hB19.wr hW64 (by omega)
          replace hE0 := Ext.wr' hE0 hW64 (by omega)
          refine Seg.step rfl rfl (Yd.assign rfl) ?_
          refine Seg.nil ?_
          refine At.then_ ?_
          refine Cd.ret ?_
          refine At.then_ret ?_
          refine At.blk_ret ?_
          refine At.then_ret ?_
          refine At.then_ret ?_
          refine At.blk_ret ?_
          exact At.ret Try.results14 (.cell rfl (run_loadVarN rfl rfl (by assumption : Bx _ b5 _).row) (.tmp rfl .nil)) ⟨⟨_, _, by rw [hfol, fol_none k hne hneg, ← hL]; rfl, by rw [hfol, fol_none k hne hneg]; exact hvx.wr_above hax (by assumption) hlt5', by rw [hfol, fol_none k hne hneg]; exact RecsAt.nil _⟩, hE0⟩
        · exfalso; omega
    · obtain ⟨j, hj⟩ : ∃ j : Nat, linkTo qt qc n rs rs.length = j := ⟨_, (Int.toNat_of_nonneg (by omega)).symm⟩
      rw [hj] at hll hneg
      obtain ⟨a, rfl⟩ : ∃ a, ao = some a := by
        cases ao with
        | none => have := hz0 rfl; omega
        | some a => exact ⟨a, rfl⟩
      obtain ⟨r, hri⟩ : ∃ r, rs[j]? = some r := ⟨_, List.getElem?_eq_getElem (by omega)⟩
      have hmem := List.mem_of_getElem? hri
      have hrow := recs_part (hr0 a rfl) hri
      by_cases hk0 : k = 0
      · subst hk0
        refine Cd.seq ?_
        refine Cd.block ?_
        refine Cd.seq ?_
        refine Cd.region ?_
        refine Seg.step rfl rfl (Yd.loadN rfl rfl rfl hB4.row) ?_
        refine Seg.step rfl rfl (Yd.move rfl) ?_
        refine Seg.step rfl rfl (Yd.move rfl) ?_
        (refine Seg.call rfl rfl (own_of rfl) rfl (look_any rs n v _ vq qt qc _ (h0.ext hE0) (hn.ext hE0) hf hl) ?_; rw [hj]; rintro _ w29 ⟨⟨vr, rfl, hvr, har⟩, hE29⟩; obtain ⟨ar, cr, rfl⟩ := recsAt_shape hvr)
        replace hB4 := hB4.ext hE29
        replace hB5 := hB5.ext hE29
        replace hB18 := hB18.ext hE29
        replace hB19 := hB19.ext hE29
        replace hE0 := Ext.trans hE0 hE29
        refine Seg.step rfl rfl (Yd.move rfl) ?_
        refine Seg.step rfl rfl (Yd.extract rfl rfl) ?_
        refine Seg.step rfl rfl (Yd.extract rfl rfl) ?_
        refine Seg.step rfl rfl (Yd.assign rfl) ?_
        refine Seg.step rfl rfl (Yd.assign rfl) ?_
        refine Seg.nil ?_
        refine At.then_ ?_
        refine Cd.seq ?_
        refine Cd.seq ?_
        refine Cd.region ?_
        refine Seg.step rfl rfl (Yd.move rfl) ?_
        refine Seg.step rfl rfl (Yd.lenS rfl rfl) ?_
        refine Seg.step rfl rfl (Yd.gtr rfl rfl) ?_
        refine Seg.nil ?_
        refine At.then_ ?_
        refine Cd.condk rfl (fun h45 => ?_) (fun h45 => ?_)
        · exfalso; omega
        · refine Cd.skip ?_
          refine At.then_ ?_
          refine Cd.seq ?_
          refine Cd.seq ?_
          refine Cd.region ?_
          refine Seg.step rfl rfl (Yd.move rfl) ?_
          refine Seg.step rfl rfl (Yd.lss rfl rfl) ?_
          refine Seg.nil ?_
          refine At.then_ ?_
          refine Cd.condF rfl ?_
          refine Cd.skip ?_
          refine At.then_ ?_
          refine Cd.seq ?_
          refine Cd.seq ?_
          refine Cd.region ?_
          refine Seg.step rfl rfl (Yd.move rfl) ?_
          refine Seg.step rfl rfl (Yd.eql rfl rfl) ?_
          refine Seg.nil ?_
          refine At.then_ ?_
          refine Cd.condk rfl (fun h66 => ?_) (fun h66 => ?_)
          · refine Cd.seq ?_
            refine Cd.region ?_
            refine Seg.step rfl rfl (Yd.build rfl rfl rfl rfl) ?_
            refine Seg.storeN rfl rfl rfl rfl hB5 rfl (by first | assumption | exact List.all_eq_true.1 rfl) (fun w71 hW71 hB71 => ?_)
            clear hB5
            replace hB4 := hB4.wr hW71 (by omega)
            replace hB18 := hB18.wr hW71 (by omega)
            replace hB19 := hB19.wr hW71 (by omega)
            replace hE0 := Ext.wr' hE0 hW71 (by omega)
            refine Seg.step rfl rfl (Yd.assign rfl) ?_
            refine Seg.nil ?_
            refine At.then_ ?_
            refine Cd.ret ?_
            refine At.then_ret ?_
            refine At.blk_ret ?_
            refine At.then_ret ?_
            refine At.then_ret ?_
            refine At.blk_ret ?_
            exact At.ret Try.results14 (.cell rfl (run_loadVarN rfl rfl (by assumption : Bx _ b5 _).row) (.tmp rfl .nil)) ⟨⟨_, _, by rw [hfol, fol_loop hne (by omega)]; rfl, by rw [hfol, fol_loop hne (by omega)]; exact Sl.nil _ 1, by rw [hfol, fol_loop hne (by omega)]; exact RecsAt.nil _⟩, hE0⟩
          · exfalso; omega
      · obtain ⟨k, rfl⟩ : ∃ k', k = k' + 1 := ⟨k - 1, by omega⟩
        refine Cd.seq ?_
        refine Cd.block ?_
        refine Cd.seq ?_
        refine Cd.region ?_
        refine Seg.step rfl rfl (Yd.loadN rfl rfl rfl hB4.row) ?_
        refine Seg.step rfl rfl (Yd.move rfl) ?_
        refine Seg.step rfl rfl (Yd.move rfl) ?_
        (refine Seg.call rfl rfl (own_of rfl) rfl (look_any rs n v _ vq qt qc _ (h0.ext hE0) (hn.ext hE0) hf hl) ?_; rw [hj]; rintro _ w29 ⟨⟨vr, rfl, hvr, har⟩, hE29⟩; obtain ⟨ar, cr, rfl⟩ := recsAt_shape hvr)
        replace hB4 := hB4.ext hE29
        replace hB5 := hB5.ext hE29
        replace hB18 := hB18.ext hE29
        replace hB19 := hB19.ext hE29
        replace hE0 := Ext.trans hE0 hE29
        refine Seg.step rfl rfl (Yd.move rfl) ?_
        refine Seg.step rfl rfl (Yd.extract rfl rfl) ?_
        refine Seg.step rfl rfl (Yd.extract rfl rfl) ?_
        refine Seg.step rfl rfl (Yd.assign rfl) ?_
        refine Seg.step rfl rfl (Yd.assign rfl) ?_
        refine Seg.nil ?_
        refine At.then_ ?_
        refine Cd.seq ?_
        refine Cd.seq ?_
        refine Cd.region ?_
        refine Seg.step rfl rfl (Yd.move rfl) ?_
        refine Seg.step rfl rfl (Yd.lenS rfl rfl) ?_
        refine Seg.step rfl rfl (Yd.gtr rfl rfl) ?_
        refine Seg.nil ?_
        refine At.then_ ?_
        refine Cd.condk rfl (fun h45 => ?_) (fun h45 => ?_)
        · exfalso; omega
        · refine Cd.skip ?_
          refine At.then_ ?_
          refine Cd.seq ?_
          refine Cd.seq ?_
          refine Cd.region ?_
          refine Seg.step rfl rfl (Yd.move rfl) ?_
          refine Seg.step rfl rfl (Yd.lss rfl rfl) ?_
          refine Seg.nil ?_
          refine At.then_ ?_
          refine Cd.condF rfl ?_
          refine Cd.skip ?_
          refine At.then_ ?_
          refine Cd.seq ?_
          refine Cd.seq ?_
          refine Cd.region ?_
          refine Seg.step rfl rfl (Yd.move rfl) ?_
          refine Seg.step rfl rfl (Yd.eql rfl rfl) ?_
          refine Seg.nil ?_
          refine At.then_ ?_
          refine Cd.condk rfl (fun h66 => ?_) (fun h66 => ?_)
          · exfalso; omega
          · refine Cd.skip ?_
            refine At.then_ ?_
            refine Cd.seq ?_
            refine Cd.region ?_
            refine Seg.step rfl rfl (Yd.move rfl) ?_
            refine Seg.step rfl rfl (Yd.move rfl) ?_
            refine Seg.step rfl rfl (Yd.move rfl) ?_
            refine Seg.step rfl rfl (Yd.indexAddr rfl rfl rfl (NatOf.cast _) (by omega)) ?_
            refine Seg.step rfl rfl (Yd.fieldAddr rfl rfl) ?_
            refine Seg.step rfl rfl (Yd.load1 rfl rfl ((hrow.ext hE0) _ _ rfl)) ?_
            (refine Seg.callv (first := []) rfl rfl rfl (own_of rfl) rfl (least_any b19 b18 cc t r.ttl _ hB19 hB18 (by omega)) ?_; rintro _ w78 ⟨hC78, hT78, m78, hWa78, hW78⟩; clear hB18 hB19; replace hE0 := (hE0.wr' hWa78 (by omega)).wr' hW78 (by omega); replace hB4 := (hB4.wr hWa78 (by omega)).wr hW78 (by omega); replace hB5 := (hB5.wr hWa78 (by omega)).wr hW78 (by omega))
            refine Seg.nil ?_
            refine At.then_ ?_
            refine Cd.region ?_
            refine Seg.step rfl rfl (Yd.move rfl) ?_
            refine Seg.step rfl rfl (Yd.move rfl) ?_
            refine Seg.step rfl rfl (Yd.indexAddr rfl rfl rfl (NatOf.cast _) (by omega)) ?_
            refine Seg.step rfl rfl (Yd.fieldAddr rfl rfl) ?_
            refine Seg.step rfl rfl (Yd.load1 rfl rfl ((hrow.ext hE0) _ _ rfl)) ?_
            refine Seg.step rfl rfl (Yd.assign rfl) ?_
            refine Seg.nil ?_
            refine At.blk ?_
            refine At.then_ ?_
            refine Cd.region ?_
            refine Seg.step rfl rfl (Yd.move rfl) ?_
            refine Seg.step rfl rfl (Yd.addI rfl rfl (by omega)) ?_
            refine Seg.step rfl rfl (Yd.assign rfl) ?_
            refine Seg.nil ?_
            exact At.round (k, _, r.tg, true, leastOf cc t r.ttl, _) (.cons rfl (.cons rfl (.cons rfl (.cons rfl (.cons rfl (.cons rfl (.cons rfl (.cons rfl (.cons rfl (.nil _)))))))))) ⟨by show k ≤ 16; omega, (hrec r hmem).2.1, (hf r hmem).2.1, hfol.trans (fol_step k hne hj hri), by show L + 1 = 16 - (k : Int); omega, hB4, hB5, by assumption, by assumption, hE0⟩ (Nat.lt_succ_self k)
end Go.Proofs.Ytidhelgoopdloaa
