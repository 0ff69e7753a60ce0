/- The law of orders without weights: the walk. -/
import Derived.Test.YtccppgpedlfjdaaWrk41
import Derived.Test.YtccppgpedlfjdaaWpq
namespace Go.Proofs.Ytccppgpedlfjdaa
open Go Go.RowKit
theorem rec_one {w : World} {r : Rec} (h : RecAt w r) : OneR r := by
  obtain ⟨⟨_, _, e1, _⟩, ⟨_, _, e2, _⟩, ⟨_, _, e3, _⟩⟩ := h
  exact ⟨by rw [e1]; rfl, by rw [e2]; rfl, by rw [e3]; rfl⟩
theorem els_of {w : World} : ∀ {rs : List Rec}, (∀ r ∈ rs, RecAt w r) → ∃ es : List El, es.map Subtype.val = rs
  | [], _ => ⟨[], rfl⟩
  | r :: rs, h => by
    obtain ⟨es, he⟩ := els_of (rs := rs) fun x hx => h x (List.mem_cons_of_mem _ hx)
    exact ⟨⟨r, rec_one (h r (by simp))⟩ :: es, by rw [List.map_cons, he]⟩
/-- Without its weight. -/
def bareE (y : El) : El := ⟨{ y.1 with wt := 0 }, y.2⟩
structure WpS where
  Wn : List El
  vw : Value
  R : List El
  vr : Value
theorem srt_uniq {E : Type} {key : E → Int} : ∀ {Y Z : List E}, Srtd key Y → Srtd key Z → SameBy key Y Z → Y = Z
  | [], Z, _, _, h => (List.eq_nil_of_length_eq_zero h.len.symm).symm
  | y :: Y, [], _, _, h => absurd h.len (by simp)
  | y :: Y, z :: Z, h1, h2, h => by
    obtain ⟨a1, a2⟩ := List.pairwise_cons.1 h1
    obtain ⟨b1, b2⟩ := List.pairwise_cons.1 h2
    have hz : key y ≤ key z := by
      have : z ∈ y :: Y := h.mem.2 (by simp)
      rcases List.mem_cons.1 this with e | e
      · rw [e]; exact Int.le_refl _
      · exact a1 z e
    have hy : key z ≤ key y := by
      have : y ∈ z :: Z := h.mem.1 (by simp)
      rcases List.mem_cons.1 this with e | e
      · rw [e]; exact Int.le_refl _
      · exact b1 y e
    have hk : key y = key z := by omega
    have e := h (key y)
    rw [List.filter_cons, List.filter_cons, if_pos (by simp), if_pos (by simp [hk])] at e
    have e1 : y = z := (List.cons.inj e).1
    subst e1
    have h3 : SameBy key Y Z := fun k => by
      have e2 := h k
      rw [List.filter_cons, List.filter_cons] at e2
      by_cases hc : key y = k
      · rw [if_pos (by simpa using hc), if_pos (by simpa using hc)] at e2
        exact (List.cons.inj e2).2
      · rw [if_neg (by simpa using hc), if_neg (by simpa using hc)] at e2
        exact e2
    rw [srt_uniq a2 b2 h3]
theorem law_plain (rs : List Rec) (v0 : Value) (ds : List Int) (v1 : Value) (w : World) (h0 : RecsAt w v0 rs) (hh : ∀ r ∈ rs, HeldR r) (hw : ∀ r ∈ rs, WfR r) (h1 : Sl w 1 v1 ds.length (ints ds)) :
    Ret Try.prog 6 #[v0, v1] w fun v w' => v = .bool true ∧ Ext w w' := by
  have hE0 := Ext.refl w
  refine Ret.body Try.func6 rfl Try.ntmps6 rfl ?_
  obtain ⟨ad, cd, rfl, hdl, hdr, hdz⟩ := id h1
  obtain ⟨⟨ao, c, rfl, hl0, hr0, hz0⟩, hrec⟩ := id h0
  have kR : Keep (RecsAt w (.slice ao rs.length c) rs) := h0
  have kD : Keep (Sl w 1 (.slice ad ds.length cd) ds.length (ints ds)) := h1
  clear hrec hr0 hdr
  by_cases hd2 : ds.length ≤ 200
  · refine Cd.seq ?_
    refine Cd.region ?_
    refine Seg.step rfl rfl (Yd.assign rfl) ?_
    refine Seg.nil ?_
    refine At.then_ ?_
    refine Cd.seq ?_
    refine Cd.seq ?_
    refine Cd.region ?_
    (refine Seg.call rfl rfl (own_of rfl) rfl (works41 _) ?_; rintro _ w11 ⟨rfl, hE11⟩)
    replace hE0 := Ext.trans hE0 hE11
    replace h1 := h1.ext hE11
    replace h0 := h0.ext hE11
    refine Seg.step rfl rfl (Yd.not rfl) ?_
    refine Seg.step rfl rfl (Yd.move rfl) ?_
    refine Seg.step rfl rfl (Yd.move rfl) ?_
    (refine Seg.call rfl rfl (own_of rfl) rfl (small26 rs _ _ h0 hh) ?_; rintro _ w15 ⟨⟨sm, rfl, hsm⟩, hE15⟩; cases sm)
    replace hE11 := Ext.trans hE11 hE15
    replace hE0 := Ext.trans hE0 hE15
    replace h1 := h1.ext hE15
    replace h0 := h0.ext hE15
    refine Seg.step rfl rfl (Yd.not rfl) ?_
    refine Seg.step rfl rfl (Yd.pickF rfl rfl) ?_
    refine Seg.step rfl rfl (Yd.move rfl) ?_
    refine Seg.skip rfl rfl ?_
    refine Seg.skip rfl rfl ?_
    refine Seg.skip rfl rfl ?_
    refine Seg.step rfl rfl (Yd.pickT rfl rfl) ?_
    refine Seg.nil ?_
    refine At.then_ ?_
    refine Cd.condT rfl ?_
    refine Cd.seq ?_
    refine Cd.region ?_
    (refine Seg.call rfl rfl (own_of rfl) rfl (works41 _) ?_; rintro _ w28 ⟨rfl, hE28⟩)
    replace hE15 := Ext.trans hE15 hE28
    replace hE11 := Ext.trans hE11 hE28
    replace hE0 := Ext.trans hE0 hE28
    replace h1 := h1.ext hE28
    replace h0 := h0.ext hE28
    refine Seg.step rfl rfl (Yd.assign rfl) ?_
    refine Seg.nil ?_
    refine At.then_ ?_
    refine Cd.ret ?_
    refine At.then_ret ?_
    exact At.ret Try.results6 (.tmp rfl .nil) ⟨rfl, by assumption⟩
    obtain ⟨hn60, hfit⟩ := hsm rfl
    obtain ⟨es, hes⟩ := els_of kR.2
    have hel : es.length = rs.length := by rw [← hes, List.length_map]
    refine Seg.step rfl rfl (Yd.not rfl) ?_
    refine Seg.step rfl rfl (Yd.pickF rfl rfl) ?_
    refine Seg.step rfl rfl (Yd.move rfl) ?_
    refine Seg.step rfl rfl (Yd.move rfl) ?_
    refine Seg.step rfl rfl (Yd.lenS rfl rfl) ?_
    refine Seg.step rfl rfl (Yd.gtr rfl rfl) ?_
    refine Seg.step rfl rfl (Yd.pickF rfl rfl) ?_
    refine Seg.nil ?_
    refine At.then_ ?_
    refine Cd.condk rfl (fun h70 => ?_) (fun h70 => ?_)
    · exfalso; omega
    refine Cd.skip ?_
    refine At.then_ ?_
    refine Cd.seq ?_
    refine Cd.region ?_
    refine Seg.step rfl rfl (Yd.assign rfl) ?_
    refine Seg.nil ?_
    refine At.then_ ?_
    refine Cd.seq ?_
    refine Cd.seq ?_
    refine Cd.region ?_
    refine Seg.step rfl rfl (Yd.assign rfl) ?_
    refine Seg.nil ?_
    refine At.then_ ?_
    refine Cd.block ?_
    refine Cd.loop (σ := Value × Nat) (fun t => [(0, .slice ao rs.length c), (1, .slice ad ds.length cd), (5, t.1), (6, .int .i64 (t.2 : Int))])
      (fun t w' => t.2 ≤ rs.length ∧ w'.ownsRow w.heap.size 44 33 t.1 ((es.take t.2).map bareE).length (((es.take t.2).map bareE).flatMap cel) ∧ Ext w w') (fun t => rs.length - t.2) (.slice none 0 0, 0) (.cons rfl (.cons rfl (.cons rfl (.cons rfl (.nil _))))) ⟨Nat.zero_le _, by rw [List.take_zero]; exact World.ownsRow_nil _ _ _ _, Ext.trans (by assumption : Ext w w11) hE15⟩ ?_
    clear hE0 h0 h1
    rintro ⟨v, i⟩ w1 ⟨hi, hO, hE9⟩
    simp only at hi hO ⊢
    have hE0 := hE9
    have kO : Keep (w1.ownsRow w.heap.size 44 33 v ((es.take i).map bareE).length (((es.take i).map bareE).flatMap cel)) := hO
    clear hO
    by_cases hlt : i < rs.length
    · obtain ⟨y, hy⟩ : ∃ y, es[i]? = some y := ⟨_, List.getElem?_eq_getElem (by omega)⟩
      have hyr : rs[i]? = some y.1 := by rw [← hes, List.getElem?_map, hy]; rfl
      obtain ⟨a, rfl⟩ : ∃ a, ao = some a := by
        cases ao with
        | none => have := hz0 rfl; omega
        | some a => exact ⟨a, rfl⟩
      have hrow : Row w (Addr.add a (i * 33)) (cel y) := by
        obtain ⟨⟨ao', c', e, _, hr, _⟩, _⟩ := kR
        cases e
        exact recs_part (hr a rfl) hyr
      have hrow0 := hrow.ext hE9
      have hone : ∀ c ∈ (cel y).toArray.toList, c.oneCell' = true := celOne y
      have htk : (es.take (i + 1)).map bareE = (es.take i).map bareE ++ [bareE y] := by rw [List.take_add_one, hy, List.map_append]; rfl
      have hlen : ((es.take i).map bareE).length ≤ 60 := by rw [List.length_map, List.length_take]; omega
      have hst : ∀ (w' : World) (v' : Value), w'.ownsRow w.heap.size 44 (32 + 1) v' (((es.take i).map bareE).length + 1) (((es.take i).map bareE).flatMap cel ++ cel (bareE y)) → w'.ownsRow w.heap.size 44 33 v' ((es.take (i + 1)).map bareE).length (((es.take (i + 1)).map bareE).flatMap cel) := fun w' v' h => by
        rw [htk]
        have e1 : ((es.take i).map bareE ++ [bareE y]).length = ((es.take i).map bareE).length + 1 := by rw [List.length_append (bs := [bareE y])]; rfl
        have e2 : ((es.take i).map bareE ++ [bareE y]).flatMap cel = ((es.take i).map bareE).flatMap cel ++ cel (bareE y) := by rw [List.flatMap_append (ys := [bareE y])]; simp
        rw [e1, e2]; exact h
      have kE1 : Keep (Ext w w1) := hE9
      have hEn := Ext.refl w1
      refine Cd.seq ?_
      refine Cd.seq ?_
      refine Cd.region ?_
      refine Seg.step rfl rfl (Yd.move rfl) ?_
      refine Seg.step rfl rfl (Yd.move rfl) ?_
      refine Seg.step rfl rfl (Yd.lenS rfl rfl) ?_
      refine Seg.step rfl rfl (Yd.lss rfl rfl) ?_
      refine Seg.nil ?_
      refine At.then_ ?_
      refine Cd.condk rfl (fun h80 => ?_) (fun h80 => ?_)
      · refine Cd.skip ?_
        refine At.then_ ?_
        refine Cd.seq ?_
        refine Cd.block ?_
        refine Cd.seq ?_
        refine Cd.region ?_
        refine Seg.step rfl rfl (Yd.move rfl) ?_
        refine Seg.step rfl rfl (Yd.move rfl) ?_
        refine Seg.step rfl rfl (Yd.indexAddr rfl rfl rfl (NatOf.cast _) (by omega)) ?_
        refine Seg.step rfl rfl (Yd.loadN rfl rfl rfl hrow0) ?_
        refine Seg.alloc rfl rfl rfl (fun w92 b92 hE92 hB92 hb92 => ?_)
        have hlt92_0 := Nat.le_trans hE9.size hb92
        have hlt92_1 := Nat.le_trans hE0.size hb92
        have hlt92_2 := Nat.le_trans hEn.size hb92
        replace hE9 := Ext.trans hE9 hE92
        replace hE0 := Ext.trans hE0 hE92
        replace hrow0 := hrow0.ext hE92
        replace hEn := Ext.trans hEn hE92
        refine Seg.storeN rfl rfl rfl rfl hB92 rfl (by first | assumption | exact List.all_eq_true.1 rfl) (fun w93 hW93 hB93 => ?_)
        clear hB92
        replace hE92 := Ext.wr' hE92 hW93 (by omega)
        replace hE9 := Ext.wr' hE9 hW93 (by omega)
        replace hE0 := Ext.wr' hE0 hW93 (by omega)
        replace hEn := Ext.wr' hEn hW93 (by omega)
        refine Seg.nil ?_
        refine At.then_ ?_
        refine Cd.seq ?_
        refine Cd.region ?_
        refine Seg.step rfl rfl (Yd.fieldAddr rfl rfl) ?_
        refine Seg.store1 rfl rfl rfl rfl rfl hB93 (by first | omega | (simp; done) | exact Nat.le_of_ble_eq_true rfl) (fun w99 hW99 hB99 => ?_)
        clear hB93
        replace hW93 := Wr.trans hW93 hW99
        replace hE92 := Ext.wr' hE92 hW99 (by omega)
        replace hE9 := Ext.wr' hE9 hW99 (by omega)
        replace hE0 := Ext.wr' hE0 hW99 (by omega)
        replace hEn := Ext.wr' hEn hW99 (by omega)
        refine Seg.nil ?_
        refine At.then_ ?_
        refine Cd.region ?_
        refine Seg.step rfl rfl (Yd.move rfl) ?_
        refine Seg.step rfl rfl (Yd.loadN rfl rfl rfl hB99.row) ?_
        refine Seg.buildSliceV rfl rfl rfl rfl rfl rfl rfl rfl rfl rfl (fun w105 b105 hE105 hB105 hb105 hO105 => ?_)
        have hlt105_0 := Nat.lt_of_lt_of_le hB99.lt hb105
        have hlt105_1 := Nat.le_trans hE92.size hb105
        have hlt105_2 := Nat.le_trans hE9.size hb105
        have hlt105_3 := Nat.le_trans hE0.size hb105
        have hlt105_4 := Nat.le_trans hEn.size hb105
        replace hW99 := Wr.trans hW99 (Ext.wr hE105 _)
        replace hB99 := hB99.ext hE105
        replace hW93 := Wr.trans hW93 (Ext.wr hE105 _)
        replace hE92 := Ext.trans hE92 hE105
        replace hE9 := Ext.trans hE9 hE105
        replace hE0 := Ext.trans hE0 hE105
        replace hEn := Ext.trans hEn hE105
        (refine Seg.append (xs := ((es.take i).map bareE).flatMap cel) (news := cel (bareE y)) (m' := 1) rfl rfl rfl rfl rfl rfl rfl rfl rfl (own_ext kO hEn) (own_sl (by assumption)) (celOne (bareE y)) (Below.size (Ext.trans kE1 hEn)) (by omega) rfl (fun v106 w106 hN hG _ => ?_); have hE9 := Ext.own (Ext.trans kE1 hEn) (own_ext kO hEn) (Nat.le_refl _) hG)
        refine Seg.step rfl rfl (Yd.assign rfl) ?_
        refine Seg.nil ?_
        refine At.blk ?_
        refine At.then_ ?_
        refine Cd.region ?_
        refine Seg.step rfl rfl (Yd.move rfl) ?_
        refine Seg.step rfl rfl (Yd.addI rfl rfl (by omega)) ?_
        refine Seg.step rfl rfl (Yd.assign rfl) ?_
        refine Seg.nil ?_
        exact At.round (_, i + 1) (.cons rfl (.cons rfl (.cons rfl (.cons rfl (.nil _))))) ⟨hlt, hst _ _ hN, hE9⟩ (Nat.sub_lt_sub_left hlt (Nat.lt_succ_self i))
      · exfalso; omega
    · have hie : i = rs.length := by omega
      have hta : (es.take i).map bareE = es.map bareE := by rw [List.take_of_length_le (by omega)]
      rw [hta] at kO
      have hbl : (es.map bareE).length = rs.length := by rw [List.length_map]; exact hel
      generalize hBs : es.map bareE = bs at kO hbl
      obtain ⟨va, vc, rfl⟩ := own_shape kO
      have hbw : ∀ y ∈ bs, y.1.wt = 0 := fun y hy => by
        rw [← hBs] at hy
        obtain ⟨x, _, rfl⟩ := List.mem_map.1 hy
        rfl
      have hcapb := own_cap kO _ _ _ rfl
      refine Cd.seq ?_
      refine Cd.seq ?_
      refine Cd.region ?_
      refine Seg.step rfl rfl (Yd.move rfl) ?_
      refine Seg.step rfl rfl (Yd.move rfl) ?_
      refine Seg.step rfl rfl (Yd.lenS rfl rfl) ?_
      refine Seg.step rfl rfl (Yd.lss rfl rfl) ?_
      refine Seg.nil ?_
      refine At.then_ ?_
      refine Cd.condk rfl (fun h80 => ?_) (fun h80 => ?_)
      · exfalso; omega
      refine Cd.exit ?_
      refine At.then_exit ?_
      refine At.then_exit ?_
      refine At.blk_same ?_
      refine At.then_ ?_
      refine Cd.seq ?_
      refine Cd.region ?_
      refine Seg.step rfl rfl (Yd.assign rfl) ?_
      refine Seg.nil ?_
      refine At.then_ ?_
      refine Cd.seq ?_
      refine Cd.region ?_
      refine Seg.step rfl rfl (Yd.move rfl) ?_
      refine Seg.step rfl rfl (Yd.assign rfl) ?_
      refine Seg.nil ?_
      refine At.then_ ?_
      refine Cd.seq ?_
      refine Cd.block ?_
      refine Cd.loop (σ := WpS) (fun t => [(0, .slice ao rs.length c), (1, .slice ad ds.length cd), (5, .slice va bs.length vc), (8, t.vw), (9, t.vr)])
        (fun t w' => (Srtd key t.Wn ∧ (∀ x ∈ t.Wn, ∀ r ∈ t.R, key x ≤ key r) ∧ SameBy key bs (t.Wn ++ t.R)) ∧ w'.ownsRow w1.heap.size 44 33 t.vw t.Wn.length (t.Wn.flatMap cel) ∧
          (Sl w' 33 t.vr t.R.length (t.R.flatMap cel) ∧ OffP (ownP t.vw) t.vr ∧ ∀ a m k, t.vr = .slice a m k → m ≤ k) ∧ Ext w1 w') (fun t => t.R.length) ⟨[], .slice none 0 0, bs, .slice va bs.length vc⟩ (.cons rfl (.cons rfl (.cons rfl (.cons rfl (.cons rfl (.nil _))))))
        ⟨⟨List.Pairwise.nil, (fun _ h => by cases h), SameBy.refl _⟩, World.ownsRow_nil _ _ _ _, ⟨own_sl kO, (fun _ _ _ _ _ h => by cases h), fun a m k h => by cases h; exact hcapb⟩, Ext.refl _⟩ ?_
      have kE1 : Keep (Ext w w1) := hE9
      clear hE0 hE9
      rintro ⟨Wn, vw, R, vr⟩ w2 ⟨⟨hS, hle, hsb⟩, hOw, ⟨hSr, hofr, hcr⟩, hE1⟩
      simp only at hS hle hsb hOw hSr hofr hcr ⊢
      have hlen : Wn.length + R.length = bs.length := by rw [hsb.len, List.length_append]
      have hRw : ∀ y ∈ R, y.1.wt = 0 := fun y hy => hbw y (hsb.mem.2 (List.mem_append_right _ hy))
      obtain ⟨ra, rc, rfl, hrl, hrr, hrz⟩ := id hSr
      have kOw : Keep (w2.ownsRow w1.heap.size 44 33 vw Wn.length (Wn.flatMap cel)) := hOw
      have kSr : Keep (Sl w2 33 (.slice ra R.length rc) R.length (R.flatMap cel)) := hSr
      have kE2 : Keep (Ext w1 w2) := hE1
      have hE0 := Ext.trans kE1 hE1
      clear hOw hSr hE1
      by_cases hR0 : 0 < R.length
      · have hcc := hcr _ _ _ rfl
        obtain ⟨d, rfl⟩ : ∃ d, ra = some d := by
          cases ra with
          | none => have := hrz rfl; omega
          | some d => exact ⟨d, rfl⟩
        have hRrow := hrr d rfl
        have hrowR : ∀ {w' : World} {j : Nat} {z : El}, Ext w2 w' → R[j]? = some z → Row w' (Addr.add d (j * 33)) (cel z) := fun hE hz => (flat_row (cel := cel) (zs := []) celK (by simpa using hRrow) hz).ext hE
        have hEn := Ext.refl w2
        obtain ⟨y0, hy0⟩ : ∃ y, R[0]? = some y := ⟨_, List.getElem?_eq_getElem hR0⟩
        refine Cd.seq ?_
        refine Cd.seq ?_
        refine Cd.region ?_
        refine Seg.step rfl rfl (Yd.move rfl) ?_
        refine Seg.step rfl rfl (Yd.lenS rfl rfl) ?_
        refine Seg.step rfl rfl (Yd.gtr rfl rfl) ?_
        refine Seg.nil ?_
        refine At.then_ ?_
        refine Cd.condk rfl (fun h89 => ?_) (fun h89 => ?_)
        rotate_left 1
        · exfalso; omega
        rotate_right 1
        refine Cd.skip ?_
        refine At.then_ ?_
        refine Cd.block ?_
        refine Cd.seq ?_
        refine Cd.region ?_
        refine Seg.step rfl rfl (Yd.assign rfl) ?_
        refine Seg.nil ?_
        refine At.then_ ?_
        refine Cd.seq ?_
        refine Cd.seq ?_
        refine Cd.region ?_
        refine Seg.step rfl rfl (Yd.assign rfl) ?_
        refine Seg.nil ?_
        refine At.then_ ?_
        refine Cd.block ?_
        refine Cd.loop (σ := El × Nat × Nat) (fun t => [(0, .slice ao rs.length c), (1, .slice ad ds.length cd), (5, .slice va bs.length vc), (8, vw), (9, .slice (some d) R.length rc), (10, .int .i64 (t.2.1 : Int)), (11, .int .i64 (t.2.2 : Int))])
          (fun t w' => (t.2.2 ≤ R.length ∧ R[t.2.1]? = some t.1 ∧ (∀ j z, j < t.2.2 → R[j]? = some z → t.1.1.pri ≤ z.1.pri) ∧ (∀ j z, j < t.2.1 → R[j]? = some z → t.1.1.pri < z.1.pri)) ∧ Ext w2 w') (fun t => R.length - t.2.2) (y0, 0, 0) (.cons rfl (.cons rfl (.cons rfl (.cons rfl (.cons rfl (.cons rfl (.cons rfl (.nil _))))))))
          ⟨⟨Nat.zero_le _, hy0, fun j z h => absurd h (Nat.not_lt_zero _), fun j z h => absurd h (Nat.not_lt_zero _)⟩, by assumption⟩ ?_
        clear hE0 hEn hy0 y0
        rintro ⟨ya, at', i'⟩ w3 ⟨⟨hi', hya, hlej, hltj⟩, hE0⟩
        simp only at hi' hya hlej hltj ⊢
        have hal := (List.getElem?_eq_some_iff.1 hya).1
        have hra := hrowR hE0 hya
        by_cases hlt' : i' < R.length
        · obtain ⟨z, hz⟩ : ∃ z, R[i']? = some z := ⟨_, List.getElem?_eq_getElem hlt'⟩
          have hrz' := hrowR hE0 hz
          by_cases hc : z.1.pri < ya.1.pri
          · refine Cd.seq ?_
            refine Cd.seq ?_
            refine Cd.region ?_
            refine Seg.step rfl rfl (Yd.move rfl) ?_
            refine Seg.step rfl rfl (Yd.move rfl) ?_
            refine Seg.step rfl rfl (Yd.lenS rfl rfl) ?_
            refine Seg.step rfl rfl (Yd.lss rfl rfl) ?_
            refine Seg.nil ?_
            refine At.then_ ?_
            refine Cd.condk rfl (fun h99 => ?_) (fun h99 => ?_)
            · refine Cd.skip ?_
              refine At.then_ ?_
              refine Cd.seq ?_
              refine Cd.block ?_
              refine Cd.seq ?_
              refine Cd.quiet (by kernel_rfl) (by kernel_rfl) ?_
              refine SegQ.step rfl rfl (fun w' hw' => Yd.move rfl) ?_
              refine SegQ.step rfl rfl (fun w' hw' => Yd.move rfl) ?_
              refine SegQ.step rfl rfl (fun w' hw' => Yd.indexAddr rfl rfl rfl (NatOf.cast _) (by omega)) ?_
              refine SegQ.step rfl rfl (fun w' hw' => Yd.fieldAddr rfl rfl) ?_
              refine SegQ.step rfl rfl (fun w' hw' => Yd.load1 rfl rfl ((hrz'.ext hw') 24 (.int .i64 z.1.pri) rfl)) ?_
              refine SegQ.step rfl rfl (fun w' hw' => Yd.move rfl) ?_
              refine SegQ.step rfl rfl (fun w' hw' => Yd.move rfl) ?_
              refine SegQ.step rfl rfl (fun w' hw' => Yd.indexAddr rfl rfl rfl (NatOf.cast _) (by omega)) ?_
              refine SegQ.step rfl rfl (fun w' hw' => Yd.fieldAddr rfl rfl) ?_
              refine SegQ.step rfl rfl (fun w' hw' => Yd.load1 rfl rfl ((hra.ext hw') 24 (.int .i64 ya.1.pri) rfl)) ?_
              refine SegQ.step rfl rfl (fun w' hw' => Yd.lss rfl rfl) ?_
              refine SegQ.nil fun w118 hE118 => ?_
              replace hE0 := Ext.trans hE0 hE118
              replace hra := hra.ext hE118
              replace hrz' := hrz'.ext hE118
              refine At.then_ ?_
              refine Cd.condk rfl (fun h120 => ?_) (fun h120 => ?_)
              · refine Cd.region ?_
                refine Seg.step rfl rfl (Yd.move rfl) ?_
                refine Seg.step rfl rfl (Yd.assign rfl) ?_
                refine Seg.nil ?_
                refine At.blk ?_
                refine At.then_ ?_
                refine Cd.region ?_
                refine Seg.step rfl rfl (Yd.move rfl) ?_
                refine Seg.step rfl rfl (Yd.addI rfl rfl (by omega)) ?_
                refine Seg.step rfl rfl (Yd.assign rfl) ?_
                refine Seg.nil ?_
                exact At.round (z, i', i' + 1) (.cons rfl (.cons rfl (.cons rfl (.cons rfl (.cons rfl (.cons rfl (.cons rfl (.nil _)))))))) ⟨⟨hlt', hz, fun j x h1 h2 => (Nat.lt_succ_iff_lt_or_eq.1 h1).elim (fun h => Int.le_trans (Int.le_of_lt hc) (hlej j x h h2)) (fun h => by subst h; rw [hz] at h2; cases h2; exact Int.le_refl _), fun j x h1 h2 => Int.lt_of_lt_of_le hc (hlej j x h1 h2)⟩, hE0⟩ (Nat.sub_lt_sub_left hlt' (Nat.lt_succ_self i'))
              · exfalso; omega
            · exfalso; omega
          · refine Cd.seq ?_
            refine Cd.seq ?_
            refine Cd.region ?_
            refine Seg.step rfl rfl (Yd.move rfl) ?_
            refine Seg.step rfl rfl (Yd.move rfl) ?_
            refine Seg.step rfl rfl (Yd.lenS rfl rfl) ?_
            refine Seg.step rfl rfl (Yd.lss rfl rfl) ?_
            refine Seg.nil ?_
            refine At.then_ ?_
            refine Cd.condk rfl (fun h99 => ?_) (fun h99 => ?_)
            · refine Cd.skip ?_
              refine At.then_ ?_
              refine Cd.seq ?_
              refine Cd.block ?_
              refine Cd.seq ?_
              refine Cd.quiet (by kernel_rfl) (by kernel_rfl) ?_
              refine SegQ.step rfl rfl (fun w' hw' => Yd.move rfl) ?_
              refine SegQ.step rfl rfl (fun w' hw' => Yd.move rfl) ?_
              refine SegQ.step rfl rfl (fun w' hw' => Yd.indexAddr rfl rfl rfl (NatOf.cast _) (by omega)) ?_
              refine SegQ.step rfl rfl (fun w' hw' => Yd.fieldAddr rfl rfl) ?_
              refine SegQ.step rfl rfl (fun w' hw' => Yd.load1 rfl rfl ((hrz'.ext hw') 24 (.int .i64 z.1.pri) rfl)) ?_
              refine SegQ.step rfl rfl (fun w' hw' => Yd.move rfl) ?_
              refine SegQ.step rfl rfl (fun w' hw' => Yd.move rfl) ?_
              refine SegQ.step rfl rfl (fun w' hw' => Yd.indexAddr rfl rfl rfl (NatOf.cast _) (by omega)) ?_
              refine SegQ.step rfl rfl (fun w' hw' => Yd.fieldAddr rfl rfl) ?_
              refine SegQ.step rfl rfl (fun w' hw' => Yd.load1 rfl rfl ((hra.ext hw') 24 (.int .i64 ya.1.pri) rfl)) ?_
              refine SegQ.step rfl rfl (fun w' hw' => Yd.lss rfl rfl) ?_
              refine SegQ.nil fun w118 hE118 => ?_
              replace hE0 := Ext.trans hE0 hE118
              replace hra := hra.ext hE118
              replace hrz' := hrz'.ext hE118
              refine At.then_ ?_
              refine Cd.condk rfl (fun h120 => ?_) (fun h120 => ?_)
              · exfalso; omega
              · refine Cd.skip ?_
                refine At.blk ?_
                refine At.then_ ?_
                refine Cd.region ?_
                refine Seg.step rfl rfl (Yd.move rfl) ?_
                refine Seg.step rfl rfl (Yd.addI rfl rfl (by omega)) ?_
                refine Seg.step rfl rfl (Yd.assign rfl) ?_
                refine Seg.nil ?_
                exact At.round (ya, at', i' + 1) (.cons rfl (.cons rfl (.cons rfl (.cons rfl (.cons rfl (.cons rfl (.cons rfl (.nil _)))))))) ⟨⟨hlt', hya, fun j x h1 h2 => (Nat.lt_succ_iff_lt_or_eq.1 h1).elim (fun h => hlej j x h h2) (fun h => by subst h; rw [hz] at h2; cases h2; exact Int.not_lt.1 hc), hltj⟩, hE0⟩ (Nat.sub_lt_sub_left hlt' (Nat.lt_succ_self i'))
            · exfalso; omega
        · refine Cd.seq ?_
          refine Cd.seq ?_
          refine Cd.region ?_
          refine Seg.step rfl rfl (Yd.move rfl) ?_
          refine Seg.step rfl rfl (Yd.move rfl) ?_
          refine Seg.step rfl rfl (Yd.lenS rfl rfl) ?_
          refine Seg.step rfl rfl (Yd.lss rfl rfl) ?_
          refine Seg.nil ?_
          refine At.then_ ?_
          refine Cd.condk rfl (fun h99 => ?_) (fun h99 => ?_)
          · exfalso; omega
          refine Cd.exit ?_
          refine At.then_exit ?_
          refine At.then_exit ?_
          refine At.blk_same ?_
          refine At.then_ ?_
          refine Cd.seq ?_
          refine Cd.region ?_
          refine Seg.step rfl rfl (Yd.move rfl) ?_
          refine Seg.step rfl rfl (Yd.move rfl) ?_
          refine Seg.step rfl rfl (Yd.move rfl) ?_
          refine Seg.step rfl rfl (Yd.indexAddr rfl rfl rfl (NatOf.cast _) (by omega)) ?_
          refine Seg.step rfl rfl (Yd.loadN rfl rfl rfl hra) ?_
          refine Seg.buildSliceV rfl rfl rfl rfl rfl rfl rfl rfl rfl rfl (fun w113 b113 hE113 hB113 hb113 hO113 => ?_)
          have hlt113_0 := Nat.le_trans hE0.size hb113
          replace hE0 := Ext.trans hE0 hE113
          replace hra := hra.ext hE113
          have hie' : i' = R.length := by omega
          have hRe : R = R.take at' ++ ya :: R.drop (at' + 1) := by
            obtain ⟨_, he⟩ := List.getElem?_eq_some_iff.1 hya
            conv => lhs; rw [← List.take_append_drop at' R, List.drop_eq_getElem_cons hal, he]
          have hyaR := List.mem_of_getElem? hya
          have hkey : ∀ z ∈ R, key z = 2 * z.1.pri := fun z hz => by
            unfold key
            rw [hRw z hz]
            unfold heldI
            omega
          have hmin : ∀ r ∈ R, key ya ≤ key r := fun r hr => by
            obtain ⟨j, hj⟩ := List.getElem?_of_mem hr
            have h1 := hlej j r (by rw [hie']; exact (List.getElem?_eq_some_iff.1 hj).1) hj
            rw [hkey _ hyaR, hkey _ hr]
            omega
          have hstrict : ∀ r ∈ R.take at', key ya < key r := fun r hr => by
            obtain ⟨j, hj⟩ := List.getElem?_of_mem hr
            have hj1 := (List.getElem?_eq_some_iff.1 hj).1
            rw [List.length_take] at hj1
            have hj2 : R[j]? = some r := by rw [List.getElem?_take] at hj; split at hj; exact hj; cases hj
            have h1 := hltj j r (by omega) hj2
            rw [hkey _ hyaR, hkey _ (List.mem_of_getElem? hj2)]
            omega
          have hsub : ∀ r ∈ R.take at' ++ R.drop (at' + 1), r ∈ R := fun r hr => (List.mem_append.1 hr).elim (fun h => List.mem_of_mem_take h) (fun h => List.mem_of_mem_drop h)
          have hS' : Srtd key (Wn ++ [ya]) := List.pairwise_append.2 ⟨hS, List.pairwise_singleton _ _, fun x hx y hy => by rw [List.mem_singleton.1 hy]; exact hle x hx ya hyaR⟩
          have hle' : ∀ x ∈ Wn ++ [ya], ∀ r ∈ R.take at' ++ R.drop (at' + 1), key x ≤ key r := fun x hx r hr => (List.mem_append.1 hx).elim (fun h => hle x h r (hsub r hr)) (fun h => by rw [List.mem_singleton.1 h]; exact hmin r (hsub r hr))
          have hsb' : SameBy key bs ((Wn ++ [ya]) ++ (R.take at' ++ R.drop (at' + 1))) := by
            have h1 : SameBy key R ([ya] ++ (R.take at' ++ R.drop (at' + 1))) := by
              have h2 : SameBy key (R.take at' ++ [ya]) ([ya] ++ R.take at') := SameBy.rot (U := R.take at') (V := [ya]) fun u hu v hv => by rw [List.mem_singleton.1 hv]; exact hstrict u hu
              have h3 := h2.app (SameBy.refl (key := key) (R.drop (at' + 1)))
              have e1 : R.take at' ++ [ya] ++ R.drop (at' + 1) = R := by rw [List.append_assoc]; exact hRe.symm
              rw [e1, List.append_assoc] at h3
              exact h3
            have h4 := hsb.trans ((SameBy.refl (key := key) Wn).app h1)
            rw [List.append_assoc]
            exact h4
          have hRl' : (R.take at' ++ R.drop (at' + 1)).length < R.length := by rw [List.length_append, List.length_take, List.length_drop]; omega
          refine Seg.appendAt (news := cel ya) (m' := 1) rfl rfl rfl rfl rfl rfl rfl rfl rfl (own_ext kOw hE0) (own_sl (by assumption)) (celOne ya) (Below.size (Ext.trans kE2 hE0)) (by omega) rfl (fun v4 w4 hN hG hAt => ?_)
          have hSr4 := Sl.keptP (Sl.ext kSr hE0) (Kept.grown hG hAt) hofr
          have hof4 := OffP.kept hofr (Sl.ext kSr hE0) (Kept.grown hG hAt)
          have hE14 : Ext w1 w4 := Ext.own (Ext.trans kE2 hE0) (own_ext kOw hE0) (Nat.le_refl _) hG
          have kN : Keep (w4.ownsRow w1.heap.size 44 33 v4 (Wn ++ [ya]).length ((Wn ++ [ya]).flatMap cel)) := by
            have e1 : (Wn ++ [ya]).length = Wn.length + 1 := by rw [List.length_append]; rfl
            have e2 : (Wn ++ [ya]).flatMap cel = Wn.flatMap cel ++ cel ya := by rw [List.flatMap_append]; simp
            rw [e1, e2]; exact hN
          have hv4lt : ∀ r, ownP v4 r → r < w4.heap.size := fun r h => (World.ownsRow.lt kN r h).2
          have hE4 := Ext.refl w4
          have kE14 : Keep (Ext w1 w4) := hE14
          clear hN hE0 hE14
          refine Seg.step rfl rfl (Yd.assign rfl) ?_
          refine Seg.nil ?_
          refine At.then_ ?_
          refine Cd.region ?_
          refine Seg.step rfl rfl (Yd.move rfl) ?_
          refine Seg.step rfl rfl (Yd.move rfl) ?_
          (refine Seg.call rfl rfl (own_of rfl) rfl (without_any R _ at' _ hSr4 hcr (by omega) hal) ?_; rintro vr5 w120 ⟨hO5, hE120⟩; have hab5 := own_above hO5; have hcp5 := own_cap hO5)
          replace hSr4 := hSr4.ext hE120
          replace hE4 := Ext.trans hE4 hE120
          refine Seg.step rfl rfl (Yd.assign rfl) ?_
          refine Seg.nil ?_
          refine At.blk ?_
          exact At.round (⟨Wn ++ [ya], v4, R.take at' ++ R.drop (at' + 1), vr5⟩ : WpS) (.cons rfl (.cons rfl (.cons rfl (.cons rfl (.cons rfl (.nil _)))))) ⟨⟨hS', hle', hsb'⟩, own_ext kN (by assumption), ⟨own_sl hO5, OffP.above hab5 hv4lt, hcp5⟩, Ext.trans kE14 (by assumption)⟩ hRl'
      · have hR : R = [] := List.eq_nil_of_length_eq_zero (by omega)
        rw [hR, List.append_nil] at hsb
        have hord : ∀ (o : Option (List Int × Nat)) (Y : List El), Srtd key Y → SameBy key bs Y → ordG o Y.length Y = Wn := fun o Y h1 h2 => by
          have hYW := srt_uniq h1 hS (h2.symm.trans hsb)
          rw [ordG_zero Y.length o Y (Nat.le_refl _) (fun y hy => hbw y (h2.mem.2 hy))]
          exact hYW
        have hbR : ∀ x ∈ bs, RecAt w x.1 ∧ FitR x.1 ∧ WfR x.1 := fun x hx => by
          rw [← hBs] at hx
          obtain ⟨z, hz, rfl⟩ := List.mem_map.1 hx
          have hzr : z.1 ∈ rs := by rw [← hes]; exact List.mem_map_of_mem hz
          have h1 := kR.2 z.1 hzr
          have h2 := hfit z.1 hzr
          have h3 := hw z.1 hzr
          exact ⟨h1, h2, h3⟩
        have hWR : ∀ r ∈ Wn.map Subtype.val, RecAt w r ∧ FitR r ∧ WfR r := fun r hr => by
          obtain ⟨x, hx, rfl⟩ := List.mem_map.1 hr
          exact hbR x (hsb.mem.2 hx)
        have hat : ∀ {w' : World} {u : Value}, Ext w w' → Sl w' 33 u Wn.length (Wn.flatMap cel) → RecsAt w' u (Wn.map Subtype.val) := fun hE h => by
          refine ⟨?_, fun r hr => (hWR r hr).1.ext hE⟩
          rw [List.length_map]
          have e : recsV (Wn.map Subtype.val) = Wn.flatMap cel := by unfold recsV; rw [List.flatMap_map]; rfl
          rw [e]; exact h
        have hWl : Wn.length ≤ 60 := by have := hsb.len; omega
        have hsame : ∀ {w' : World} {u1 u2 : Value}, Ext w w' → Sl w' 33 u1 Wn.length (Wn.flatMap cel) → Sl w' 33 u2 Wn.length (Wn.flatMap cel) → Ret Try.prog 19 #[u1, u2] w' fun v w'' => v = .bool true ∧ Ext w' w'' := fun hE h1 h2 =>
          (sameRRs (Wn.map Subtype.val) (Wn.map Subtype.val) _ _ _ (hat hE h1) (hat hE h2) (fun r hr => (hWR r hr).2.1) (fun r hr => (hWR r hr).2.2) (fun r hr => (hWR r hr).2.2) (by rw [List.length_map]; omega)).mono fun v w'' ⟨⟨b, hv, hb⟩, hE2⟩ => ⟨by rw [hv, hb.2 rfl], hE2⟩
        have kb2 : Keep (Sl w2 33 (.slice va bs.length vc) bs.length (bs.flatMap cel)) := (own_sl kO).ext kE2
        have kw2 : Keep (Sl w2 33 vw Wn.length (Wn.flatMap cel)) := own_sl kOw
        have kd2 : Keep (Sl w2 1 (.slice ad ds.length cd) ds.length (ints ds)) := Sl.ext kD hE0
        have hEw2 : Ext w w2 := hE0
        have kEw2 : Keep (Ext w w2) := hE0
        have hE2r := Ext.refl w2
        refine Cd.seq ?_
        refine Cd.seq ?_
        refine Cd.region ?_
        refine Seg.step rfl rfl (Yd.move rfl) ?_
        refine Seg.step rfl rfl (Yd.lenS rfl rfl) ?_
        refine Seg.step rfl rfl (Yd.gtr rfl rfl) ?_
        refine Seg.nil ?_
        refine At.then_ ?_
        refine Cd.condk rfl (fun h89 => ?_) (fun h89 => ?_)
        · exfalso; omega
        refine Cd.exit ?_
        refine At.then_exit ?_
        refine At.then_exit ?_
        refine At.blk_same ?_
        refine At.then_ ?_
        refine Cd.seq ?_
        refine Cd.region ?_
        refine Seg.step rfl rfl (Yd.move rfl) ?_
        refine Seg.step rfl rfl (Yd.move rfl) ?_
        (refine Seg.call rfl rfl (own_of rfl) rfl (new_any ds _ _ (Sl.ext kd2 hE2r) (by omega)) ?_; rintro _ w100 ⟨b, rfl, hE100, hb100, hL⟩)
        have hlt100_0 := Nat.le_trans hE0.size hb100
        have hlt100_1 := Nat.le_trans hEw2.size hb100
        have hlt100_2 := Nat.le_trans hE2r.size hb100
        replace hE0 := Ext.trans hE0 hE100
        replace hEw2 := Ext.trans hEw2 hE100
        replace hE2r := Ext.trans hE2r hE100
        have hbl1 := hL.1.1
        have hbl2 := hL.1.2
        refine Seg.call rfl rfl (own_of rfl) rfl (order_lot w2 bs _ ds _ b _ (Sl.ext kb2 hE2r) (by omega) hL (fun x h => h.2) hE2r hL.1.1) ?_
        rintro vo w5 ⟨Y, hY, hYs, hO5, hK5, hE5⟩
        rw [hord _ Y hY hYs] at hO5
        have kO5 : Keep (Sl w5 33 vo Wn.length (Wn.flatMap cel)) := own_sl hO5
        have hbl5 := Nat.lt_of_lt_of_le hbl2 hK5.size
        have hE0 := Ext.trans kEw2 hE5
        have hE2s : Ext w2 w5 := hE5
        have hE5r := Ext.refl w5
        clear hE5 hL hO5 hK5 hY hYs hEw2 hE2r
        refine Seg.step rfl rfl (Yd.move rfl) ?_
        (refine Seg.call rfl rfl (own_of rfl) rfl (hsame (Ext.trans kEw2 hE2s) (Sl.ext kO5 hE5r) (Sl.ext kw2 hE2s)) ?_; rintro _ w102 ⟨rfl, hE102⟩)
        replace hE0 := Ext.trans hE0 hE102
        replace hE2s := Ext.trans hE2s hE102
        replace hE5r := Ext.trans hE5r hE102
        refine Seg.step rfl rfl (Yd.move rfl) ?_
        refine Seg.step rfl rfl (Yd.move rfl) ?_
        have hbl6 := Nat.lt_of_lt_of_le hbl5 (Below.size hE5r)
        refine Seg.call rfl rfl (own_of rfl) rfl (order_any none w2 bs _ (.slice none 0 0) _ b _ (Sl.ext kb2 hE2s) (by omega) hbl6 rfl (fun _ _ h => by cases h) (fun _ _ _ h => by cases h) (fun _ _ _ h => by cases h) hE2s hbl1) ?_
        rintro vo2 w6 ⟨Y2, hY2, hYs2, hO6, hK6, hE6⟩
        rw [hord _ Y2 hY2 hYs2] at hO6
        have kO6 : Keep (Sl w6 33 vo2 Wn.length (Wn.flatMap cel)) := own_sl hO6
        have hE2t : Ext w2 w6 := hE6
        have hE6r := Ext.refl w6
        clear hE0 hO6 hK6 hY2 hYs2 hE6
        have hE0 := Ext.trans kEw2 hE2t
        refine Seg.step rfl rfl (Yd.move rfl) ?_
        (refine Seg.call rfl rfl (own_of rfl) rfl (hsame (Ext.trans kEw2 hE2t) (Sl.ext kO6 hE6r) (Sl.ext kw2 hE2t)) ?_; rintro _ w104 ⟨rfl, hE104⟩)
        replace hE2t := Ext.trans hE2t hE104
        replace hE6r := Ext.trans hE6r hE104
        replace hE0 := Ext.trans hE0 hE104
        refine Seg.step rfl rfl (Yd.pickT rfl rfl) ?_
        refine Seg.step rfl rfl (Yd.assign rfl) ?_
        refine Seg.nil ?_
        refine At.then_ ?_
        refine Cd.ret ?_
        exact At.ret Try.results6 (.tmp rfl .nil) ⟨rfl, by assumption⟩
  · refine Cd.seq ?_
    refine Cd.region ?_
    refine Seg.step rfl rfl (Yd.assign rfl) ?_
    refine Seg.nil ?_
    refine At.then_ ?_
    refine Cd.seq ?_
    refine Cd.seq ?_
    refine Cd.region ?_
    (refine Seg.call rfl rfl (own_of rfl) rfl (works41 _) ?_; rintro _ w11 ⟨rfl, hE11⟩)
    replace hE0 := Ext.trans hE0 hE11
    replace h1 := h1.ext hE11
    replace h0 := h0.ext hE11
    refine Seg.step rfl rfl (Yd.not rfl) ?_
    refine Seg.step rfl rfl (Yd.move rfl) ?_
    refine Seg.step rfl rfl (Yd.move rfl) ?_
    (refine Seg.call rfl rfl (own_of rfl) rfl (small26 rs _ _ h0 hh) ?_; rintro _ w15 ⟨⟨sm, rfl, hsm⟩, hE15⟩)
    replace hE11 := Ext.trans hE11 hE15
    replace hE0 := Ext.trans hE0 hE15
    replace h1 := h1.ext hE15
    replace h0 := h0.ext hE15
    refine Seg.step rfl rfl (Yd.not rfl) ?_
    refine Seg.step rfl rfl (Yd.pickF rfl rfl) ?_
    refine Seg.step rfl rfl (Yd.move rfl) ?_
    refine Seg.gsplit rfl rfl (fun h19 => ?_) (fun h19 => ?_)
    · refine Seg.skip rfl rfl ?_
      refine Seg.skip rfl rfl ?_
      refine Seg.skip rfl rfl ?_
      refine Seg.step rfl rfl (Yd.pickT rfl rfl) ?_
      refine Seg.nil ?_
      refine At.then_ ?_
      refine Cd.condT rfl ?_
      refine Cd.seq ?_
      refine Cd.region ?_
      (refine Seg.call rfl rfl (own_of rfl) rfl (works41 _) ?_; rintro _ w30 ⟨rfl, hE30⟩)
      replace hE15 := Ext.trans hE15 hE30
      replace hE11 := Ext.trans hE11 hE30
      replace hE0 := Ext.trans hE0 hE30
      replace h1 := h1.ext hE30
      replace h0 := h0.ext hE30
      refine Seg.step rfl rfl (Yd.assign rfl) ?_
      refine Seg.nil ?_
      refine At.then_ ?_
      refine Cd.ret ?_
      refine At.then_ret ?_
      exact At.ret Try.results6 (.tmp rfl .nil) ⟨rfl, by assumption⟩
    · refine Seg.step rfl rfl (Yd.move rfl) ?_
      refine Seg.step rfl rfl (Yd.lenS rfl rfl) ?_
      refine Seg.step rfl rfl (Yd.gtr rfl rfl) ?_
      refine Seg.step rfl rfl (Yd.pickF rfl rfl) ?_
      refine Seg.nil ?_
      refine At.then_ ?_
      refine Cd.condk rfl (fun h44 => ?_) (fun h44 => ?_)
      · refine Cd.seq ?_
        refine Cd.region ?_
        (refine Seg.call rfl rfl (own_of rfl) rfl (works41 _) ?_; rintro _ w48 ⟨rfl, hE48⟩)
        replace hE15 := Ext.trans hE15 hE48
        replace hE11 := Ext.trans hE11 hE48
        replace hE0 := Ext.trans hE0 hE48
        replace h1 := h1.ext hE48
        replace h0 := h0.ext hE48
        refine Seg.step rfl rfl (Yd.assign rfl) ?_
        refine Seg.nil ?_
        refine At.then_ ?_
        refine Cd.ret ?_
        refine At.then_ret ?_
        exact At.ret Try.results6 (.tmp rfl .nil) ⟨rfl, by assumption⟩
      · exfalso; omega
end Go.Proofs.Ytccppgpedlfjdaa
