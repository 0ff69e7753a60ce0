/- The second law of sortlist. -/
import Derived.Test.YtdomaooegpeneaaAdl
namespace Go.Proofs.Ytdomaooegpeneaa
open Go Go.RowKit
theorem order_len (ps : List El) (ads : List Adr) (v u : Value) (w : World) (h : PfxAt w v ps) (hp : ∀ p ∈ ps, WfA p.1) (hl : ps.length ≤ 1000) (h' : AdrsAt w u ads) (ha : ∀ a ∈ ads, WfA a) (hl' : ads.length ≤ 1000) :
    Ret Try.prog 9 #[v, u] w fun r w' => (AdrsAt w' r (ordOf ps ads (ps.length + 1)) ∧ (ordOf ps ads (ps.length + 1)).length = ads.length) ∧ Ext w w' :=
  (order9 ps ads v u w h hp hl h' ha hl').mono fun r w' ⟨⟨Y, h1, h2, h3⟩, h4⟩ => ⟨⟨by rw [← ord_of h2 h3]; exact h1, ord_same_len ps ads (ord_of h2 h3) h3⟩, h4⟩
theorem order_again (ps : List El) (ads : List Adr) (v u : Value) (w : World) (h : PfxAt w v ps) (hp : ∀ p ∈ ps, WfA p.1) (hl : ps.length ≤ 1000) (h' : AdrsAt w u (ordOf ps ads (ps.length + 1))) (ha : ∀ a ∈ ads, WfA a) (hl' : (ordOf ps ads (ps.length + 1)).length ≤ 1000) :
    Ret Try.prog 9 #[v, u] w fun r w' => AdrsAt w' r (ordOf ps ads (ps.length + 1)) ∧ Ext w w' :=
  (order_fin ps _ v u w h hp hl h' (fun a h => ha a (ord_mem h)) hl').mono fun r w' ⟨h1, h4⟩ => ⟨by rw [ord_twice] at h1; exact h1, h4⟩
theorem order_none (ads : List Adr) (u : Value) (w : World) (h' : AdrsAt w u ads) (ha : ∀ a ∈ ads, WfA a) (hl' : ads.length ≤ 1000) :
    Ret Try.prog 9 #[.slice none 0 0, u] w fun r w' => AdrsAt w' r ads ∧ Ext w w' :=
  (order_fin [] ads _ u w (Sl.nil w 19) (fun p h => by cases h) (by decide) h' ha hl').mono fun r w' ⟨h1, h4⟩ => ⟨by rw [show ordOf [] ads (([] : List El).length + 1) = ads from ord_nil ads] at h1; exact h1, h4⟩
theorem adr_row {w : World} {ao : Option Addr} {n c : Nat} {qs : List Adr} (h : AdrsAt w (.slice ao n c) qs) {i : Nat} {a : Adr} (hi : qs[i]? = some a) : ∃ d, ao = some d ∧ Row w (Addr.add d (i * 18)) a.cells := by
  obtain ⟨ao', c', e, hl, hr, hz⟩ := h
  cases e
  have hlt := (List.getElem?_eq_some_iff.1 hi).1
  cases ao with
  | none => have := hz rfl; omega
  | some d => exact ⟨d, rfl, flat_row (cel := Adr.cells) (zs := []) (fun _ => rfl) (by rw [List.append_nil]; exact hr d rfl) hi⟩
noncomputable def cntOf (L : List Adr) (b : Adr) (k : Nat) : Nat := ((L.take k).filter fun a => decide (a = b)).length
theorem cnt_zero (L : List Adr) (b : Adr) : cntOf L b 0 = 0 := rfl
theorem cnt_le (L : List Adr) (b : Adr) (k : Nat) : cntOf L b k ≤ k := by
  unfold cntOf
  exact Nat.le_trans (List.length_filter_le _ _) (by rw [List.length_take]; omega)
theorem cnt_yes {L : List Adr} {b a : Adr} {k : Nat} (h : L[k]? = some a) (hb : a = b) : cntOf L b (k + 1) = cntOf L b k + 1 := by
  unfold cntOf
  rw [List.take_add_one, h, List.filter_append]
  simp [hb]
theorem cnt_no {L : List Adr} {b a : Adr} {k : Nat} (h : L[k]? = some a) (hb : ¬ a = b) : cntOf L b (k + 1) = cntOf L b k := by
  unfold cntOf
  rw [List.take_add_one, h, List.filter_append]
  simp [hb]
theorem cnt_all {L : List Adr} {b : Adr} {k : Nat} (h : k = L.length) : cntOf L b k = (L.filter fun a => decide (a = b)).length := by
  subst h; unfold cntOf; rw [List.take_length]
theorem law4 (ps : List El) (ads : List Adr) (v u : Value) (w : World) (h : PfxAt w v ps) (h' : AdrsAt w u ads) (hp : ∀ p ∈ ps, WfA p.1) (hads : ∀ a ∈ ads, WfA a) :
    Ret Try.prog 4 #[v, u] w fun r w' => r = .bool true ∧ Ext w w' := by
  have hE0 := Ext.refl w
  have hps := h
  have had := h'
  obtain ⟨ao, c, rfl, -, -, -⟩ := h
  obtain ⟨ao', c', rfl, -, -, -⟩ := h'
  refine Ret.body Try.func4 rfl Try.ntmps4 rfl ?_
  by_cases h40 : ps.length ≤ 40
  · by_cases h60 : ads.length ≤ 60
    · have hwo : ∀ a ∈ ordOf ps ads (ps.length + 1), WfA a := fun a h => hads a (ord_mem h)
      refine Cd.seq ?_
      refine Cd.region ?_
      refine Seg.step rfl rfl (Yd.assign rfl) ?_
      refine Seg.nil ?_
      refine At.then_ ?_
      refine Cd.seq ?_
      refine Cd.seq ?_
      refine Cd.region ?_
      (refine Seg.call rfl rfl (own_of rfl) rfl (works5 _) ?_; rintro _ w69 ⟨rfl, hE69⟩)
      replace hE0 := Ext.trans hE0 hE69
      replace hps := hps.ext hE69
      replace had := had.ext hE69
      refine Seg.step rfl rfl (Yd.not rfl) ?_
      refine Seg.step rfl rfl (Yd.move rfl) ?_
      refine Seg.step rfl rfl (Yd.move rfl) ?_
      refine Seg.step rfl rfl (Yd.lenS rfl rfl) ?_
      refine Seg.step rfl rfl (Yd.gtr rfl rfl) ?_
      refine Seg.step rfl rfl (Yd.pickF rfl rfl) ?_
      refine Seg.step rfl rfl (Yd.move rfl) ?_
      refine Seg.gsplitp rfl rfl (fun h77 => ?_) (fun h77 => ?_)
      · exfalso; omega
      refine Seg.step rfl rfl (Yd.move rfl) ?_
      refine Seg.step rfl rfl (Yd.lenS rfl rfl) ?_
      refine Seg.step rfl rfl (Yd.gtr rfl rfl) ?_
      refine Seg.step rfl rfl (Yd.pickF rfl rfl) ?_
      refine Seg.nil ?_
      refine At.then_ ?_
      refine Cd.condk rfl (fun h85 => ?_) (fun h85 => ?_)
      · exfalso; omega
      refine Cd.skip ?_
      refine At.then_ ?_
      refine Cd.seq ?_
      refine Cd.region ?_
      refine Seg.step rfl rfl (Yd.move rfl) ?_
      refine Seg.step rfl rfl (Yd.move rfl) ?_
      (refine Seg.call rfl rfl (own_of rfl) rfl (order_len ps ads _ _ _ hps hp (by omega) had hads (by omega)) ?_; rintro _ w93 ⟨⟨hO1, hlen⟩, hE93⟩; have hO0 := hO1; obtain ⟨oo, oc, rfl, -, -, -⟩ := hO0)
      replace hE69 := Ext.trans hE69 hE93
      replace hE0 := Ext.trans hE0 hE93
      replace hps := hps.ext hE93
      replace had := had.ext hE93
      refine Seg.step rfl rfl (Yd.assign rfl) ?_
      refine Seg.nil ?_
      refine At.then_ ?_
      refine Cd.seq ?_
      refine Cd.seq ?_
      refine Cd.region ?_
      refine Seg.step rfl rfl (Yd.move rfl) ?_
      refine Seg.step rfl rfl (Yd.lenS rfl rfl) ?_
      refine Seg.step rfl rfl (Yd.move rfl) ?_
      refine Seg.step rfl rfl (Yd.lenS rfl rfl) ?_
      refine Seg.step rfl rfl (Yd.neq rfl rfl) ?_
      refine Seg.step rfl rfl (Yd.move rfl) ?_
      refine Seg.gsplitp rfl rfl (fun h106 => ?_) (fun h106 => ?_)
      · exfalso; omega
      refine Seg.step rfl rfl (Yd.move rfl) ?_
      refine Seg.step rfl rfl (Yd.move rfl) ?_
      (refine Seg.call rfl rfl (own_of rfl) rfl (order_again ps ads _ _ _ hps hp (by omega) hO1 hads (by omega)) ?_; rintro _ w110 ⟨hO2, hE110⟩)
      replace hE93 := Ext.trans hE93 hE110
      replace hO1 := hO1.ext hE110
      replace hE69 := Ext.trans hE69 hE110
      replace hE0 := Ext.trans hE0 hE110
      replace hps := hps.ext hE110
      replace had := had.ext hE110
      refine Seg.step rfl rfl (Yd.move rfl) ?_
      (refine Seg.call rfl rfl (own_of rfl) rfl (same_self _ _ _ _ hO2 hO1 hwo (by omega)) ?_; rintro _ w112 ⟨rfl, hE112⟩)
      replace hO2 := hO2.ext hE112
      replace hE110 := Ext.trans hE110 hE112
      replace hE93 := Ext.trans hE93 hE112
      replace hO1 := hO1.ext hE112
      replace hE69 := Ext.trans hE69 hE112
      replace hE0 := Ext.trans hE0 hE112
      replace hps := hps.ext hE112
      replace had := had.ext hE112
      refine Seg.step rfl rfl (Yd.not rfl) ?_
      refine Seg.step rfl rfl (Yd.pickF rfl rfl) ?_
      refine Seg.step rfl rfl (Yd.move rfl) ?_
      refine Seg.step rfl rfl (Yd.move rfl) ?_
      (refine Seg.call rfl rfl (own_of rfl) rfl (order_none ads _ _ had hads (by omega)) ?_; rintro _ w117 ⟨hO3, hE117⟩)
      replace hE112 := Ext.trans hE112 hE117
      replace hO2 := hO2.ext hE117
      replace hE110 := Ext.trans hE110 hE117
      replace hE93 := Ext.trans hE93 hE117
      replace hO1 := hO1.ext hE117
      replace hE69 := Ext.trans hE69 hE117
      replace hE0 := Ext.trans hE0 hE117
      replace hps := hps.ext hE117
      replace had := had.ext hE117
      refine Seg.step rfl rfl (Yd.move rfl) ?_
      (refine Seg.call rfl rfl (own_of rfl) rfl (same_self _ _ _ _ hO3 had hads (by omega)) ?_; rintro _ w119 ⟨rfl, hE119⟩)
      replace hO3 := hO3.ext hE119
      replace hE117 := Ext.trans hE117 hE119
      replace hE112 := Ext.trans hE112 hE119
      replace hO2 := hO2.ext hE119
      replace hE110 := Ext.trans hE110 hE119
      replace hE93 := Ext.trans hE93 hE119
      replace hO1 := hO1.ext hE119
      replace hE69 := Ext.trans hE69 hE119
      replace hE0 := Ext.trans hE0 hE119
      replace hps := hps.ext hE119
      replace had := had.ext hE119
      refine Seg.step rfl rfl (Yd.not rfl) ?_
      refine Seg.step rfl rfl (Yd.pickF rfl rfl) ?_
      refine Seg.nil ?_
      refine At.then_ ?_
      refine Cd.condF rfl ?_
      refine Cd.skip ?_
      refine At.then_ ?_
      refine Cd.seq ?_
      refine Cd.seq ?_
      refine Cd.region ?_
      refine Seg.step rfl rfl (Yd.assign rfl) ?_
      refine Seg.nil ?_
      refine At.then_ ?_
      refine Cd.block ?_
      have hcnt := ord_count ps ads
      have hrise := ord_rise ps ads (ps.length + 1)
      have hO1' : AdrsAt w119 (.slice oo ads.length oc) (ordOf ps ads (ps.length + 1)) := by rw [← hlen]; exact hO1
      rw [hlen]
      clear hO1 hO2 hO3
      generalize ordOf ps ads (ps.length + 1) = O at hcnt hrise hO1' hlen hwo
      refine Cd.loop (σ := Nat) (fun i => [(0, .slice ao ps.length c), (1, .slice ao' ads.length c'), (4, .bool false), (5, .slice oo ads.length oc), (6, .int .i64 (i : Int))])
        (fun i w' => 1 ≤ i ∧ Ext w w' ∧ PfxAt w' (.slice ao ps.length c) ps ∧ AdrsAt w' (.slice ao' ads.length c') ads ∧ AdrsAt w' (.slice oo ads.length oc) O) (fun i => ads.length - i) 1 (.cons rfl (.cons rfl (.cons rfl (.cons rfl (.cons rfl (.nil _)))))) ⟨Nat.le_refl _, by assumption, hps, had, hO1'⟩ ?_
      clear hps had hO1' hE0
      rintro i w0 ⟨hi, hE0, hps, had, hO1⟩
      by_cases hlt : i < ads.length
      · obtain ⟨a, hai⟩ : ∃ a, O[i]? = some a := ⟨_, List.getElem?_eq_getElem (by omega)⟩
        obtain ⟨b, hbi⟩ : ∃ b, O[i - 1]? = some b := ⟨_, List.getElem?_eq_getElem (by omega)⟩
        obtain ⟨d, rfl, hra⟩ := adr_row hO1 hai
        obtain ⟨d', e, hrb⟩ := adr_row hO1 hbi
        cases e
        have haw := hwo a (List.mem_of_getElem? hai)
        have hbw := hwo b (List.mem_of_getElem? hbi)
        have hle : placeOf ps b ≤ placeOf ps a := by
          obtain ⟨h1, h2⟩ := List.getElem?_eq_some_iff.1 hai
          obtain ⟨h3, h4⟩ := List.getElem?_eq_some_iff.1 hbi
          rw [← h2, ← h4]
          exact List.pairwise_iff_getElem.1 hrise _ _ h3 h1 (by omega)
        refine Cd.seq ?_
        refine Cd.seq ?_
        refine Cd.region ?_
        refine Seg.step rfl rfl (Yd.move rfl) ?_
        refine Seg.step rfl rfl (Yd.move rfl) ?_
        refine Seg.step rfl rfl (Yd.lenS rfl rfl) ?_
        refine Seg.step rfl rfl (Yd.lss rfl rfl) ?_
        refine Seg.nil ?_
        refine At.then_ ?_
        refine Cd.condk rfl (fun h129 => ?_) (fun h129 => ?_)
        · refine Cd.skip ?_
          refine At.then_ ?_
          refine Cd.seq ?_
          refine Cd.block ?_
          refine Cd.seq ?_
          refine Cd.anyE (by kernel_rfl) (fun w136 hE136 => ?_)
          replace hE0 := Ext.trans hE0 hE136
          replace hps := hps.ext hE136
          replace had := had.ext hE136
          replace hra := hra.ext hE136
          replace hO1 := hO1.ext hE136
          replace hrb := hrb.ext hE136
          refine SegA.pure 0 rfl (by kernel_rfl) (by kernel_rfl) (by kernel_rfl) rfl rfl (fun _ => Yd.move rfl) ?_
          refine SegA.pure 1 rfl (by kernel_rfl) (by kernel_rfl) (by kernel_rfl) rfl rfl (fun _ => Yd.move rfl) ?_
          refine SegA.pure 2 rfl (by kernel_rfl) (by kernel_rfl) (by kernel_rfl) rfl rfl (fun _ => Yd.move rfl) ?_
          refine SegA.pure 3 rfl (by kernel_rfl) (by kernel_rfl) (by kernel_rfl) rfl rfl (fun _ => Yd.indexAddr rfl rfl rfl (NatOf.cast _) (by omega)) ?_
          refine SegA.pure 6 rfl (by kernel_rfl) (by kernel_rfl) (by kernel_rfl) rfl rfl (fun _ => Yd.move rfl) ?_
          refine SegA.pure 7 rfl (by kernel_rfl) (by kernel_rfl) (by kernel_rfl) rfl rfl (fun _ => Yd.move rfl) ?_
          refine SegA.pure 8 rfl (by kernel_rfl) (by kernel_rfl) (by kernel_rfl) rfl rfl (fun _ => Yd.move rfl) ?_
          refine SegA.pure 9 rfl (by kernel_rfl) (by kernel_rfl) (by kernel_rfl) rfl rfl (fun _ => Yd.subI rfl rfl (by omega)) ?_
          refine SegA.pure 10 rfl (by kernel_rfl) (by kernel_rfl) (by kernel_rfl) rfl rfl (fun _ => Yd.indexAddr rfl rfl rfl (NatOf.sub (NatOf.cast _) (NatOf.cast 1) (by omega)) (by omega)) ?_
          refine SegA.held 14 ?_
          refine SegG.take 4 rfl (by kernel_rfl) (by kernel_rfl) (by kernel_rfl) (by kernel_rfl) (by kernel_rfl) rfl rfl (fun w' hw' => Yd.loadN rfl rfl rfl (hra.ext hw')) ?_
          refine SegG.take 11 rfl (by kernel_rfl) (by kernel_rfl) (by kernel_rfl) (by kernel_rfl) (by kernel_rfl) rfl rfl (fun w' hw' => Yd.loadN rfl rfl rfl (hrb.ext hw')) ?_
          refine SegG.oneSeg (o := ⟨_, _, _, _, _, _⟩) 5 rfl (by kernel_rfl) ?_
          (refine Seg.call rfl rfl (own_of rfl) rfl (place7 ps a _ _ hps hp haw (by omega)) ?_; rintro _ w150 ⟨rfl, hE150⟩)
          replace hE136 := Ext.trans hE136 hE150
          replace hE0 := Ext.trans hE0 hE150
          replace hps := hps.ext hE150
          replace had := had.ext hE150
          replace hra := hra.ext hE150
          replace hO1 := hO1.ext hE150
          replace hrb := hrb.ext hE150
          refine SegG.back rfl (by first | assumption | exact Ext.refl _) ?_
          refine SegG.oneSeg (o := ⟨_, _, _, _, _, _⟩) 12 rfl (by kernel_rfl) ?_
          (refine Seg.call rfl rfl (own_of rfl) rfl (place7 ps b _ _ hps hp hbw (by omega)) ?_; rintro _ w153 ⟨rfl, hE153⟩)
          replace hE150 := Ext.trans hE150 hE153
          replace hE136 := Ext.trans hE136 hE153
          replace hE0 := Ext.trans hE0 hE153
          replace hps := hps.ext hE153
          replace had := had.ext hE153
          replace hra := hra.ext hE153
          replace hO1 := hO1.ext hE153
          replace hrb := hrb.ext hE153
          refine SegG.back rfl (by first | assumption | exact Ext.refl _) ?_
          refine SegG.take 13 rfl (by kernel_rfl) (by kernel_rfl) (by kernel_rfl) (by kernel_rfl) (by kernel_rfl) rfl rfl (fun w' hw' => Yd.lss rfl rfl) ?_
          refine SegG.done (by kernel_rfl) ?_
          refine At.then_ ?_
          refine Cd.condk rfl (fun h158 => ?_) (fun h158 => ?_)
          · exfalso; omega
          · refine Cd.skip ?_
            refine At.blk ?_
            refine At.then_ ?_
            refine Cd.region ?_
            refine Seg.step rfl rfl (Yd.move rfl) ?_
            refine Seg.step rfl rfl (Yd.addI rfl rfl (by omega)) ?_
            refine Seg.step rfl rfl (Yd.assign rfl) ?_
            refine Seg.nil ?_
            exact At.round (i + 1) (.cons rfl (.cons rfl (.cons rfl (.cons rfl (.cons rfl (.nil _)))))) ⟨by omega, by assumption, hps, had, hO1⟩ (by omega)
        · exfalso; omega
      · refine Cd.seq ?_
        refine Cd.seq ?_
        refine Cd.region ?_
        refine Seg.step rfl rfl (Yd.move rfl) ?_
        refine Seg.step rfl rfl (Yd.move rfl) ?_
        refine Seg.step rfl rfl (Yd.lenS rfl rfl) ?_
        refine Seg.step rfl rfl (Yd.lss rfl rfl) ?_
        refine Seg.nil ?_
        refine At.then_ ?_
        refine Cd.condk rfl (fun h129 => ?_) (fun h129 => ?_)
        · exfalso; omega
        refine Cd.exit ?_
        refine At.then_exit ?_
        refine At.then_exit ?_
        refine At.blk_same ?_
        refine At.then_ ?_
        refine Cd.seq ?_
        refine Cd.seq ?_
        refine Cd.region ?_
        refine Seg.step rfl rfl (Yd.assign rfl) ?_
        refine Seg.nil ?_
        refine At.then_ ?_
        refine Cd.block ?_
        refine Cd.loop (σ := Nat) (fun j => [(0, .slice ao ps.length c), (1, .slice ao' ads.length c'), (4, .bool false), (5, .slice oo ads.length oc), (7, .int .i64 (j : Int))])
          (fun j w' => Ext w w' ∧ AdrsAt w' (.slice ao' ads.length c') ads ∧ AdrsAt w' (.slice oo ads.length oc) O) (fun j => ads.length - j) 0 (.cons rfl (.cons rfl (.cons rfl (.cons rfl (.cons rfl (.nil _)))))) ⟨by assumption, had, hO1⟩ ?_
        clear hps had hO1 hE0
        rintro j w1 ⟨hE0, had, hO1⟩
        by_cases hjl : j < ads.length
        · obtain ⟨b, hbj⟩ : ∃ b, ads[j]? = some b := ⟨_, List.getElem?_eq_getElem hjl⟩
          have hbw := hads b (List.mem_of_getElem? hbj)
          refine Cd.seq ?_
          refine Cd.seq ?_
          refine Cd.region ?_
          refine Seg.step rfl rfl (Yd.move rfl) ?_
          refine Seg.step rfl rfl (Yd.move rfl) ?_
          refine Seg.step rfl rfl (Yd.lenS rfl rfl) ?_
          refine Seg.step rfl rfl (Yd.lss rfl rfl) ?_
          refine Seg.nil ?_
          refine At.then_ ?_
          refine Cd.condk rfl (fun h139 => ?_) (fun h139 => ?_)
          rotate_left 1
          · exfalso; omega
          rotate_right 1
          refine Cd.skip ?_
          refine At.then_ ?_
          refine Cd.seq ?_
          refine Cd.block ?_
          refine Cd.seq ?_
          refine Cd.region ?_
          refine Seg.step rfl rfl (Yd.assign rfl) ?_
          refine Seg.step rfl rfl (Yd.assign rfl) ?_
          refine Seg.nil ?_
          refine At.then_ ?_
          refine Cd.seq ?_
          refine Cd.seq ?_
          refine Cd.region ?_
          refine Seg.step rfl rfl (Yd.assign rfl) ?_
          refine Seg.nil ?_
          refine At.then_ ?_
          refine Cd.block ?_
          refine Cd.loop (σ := Nat × Nat × Nat) (fun s => [(0, .slice ao ps.length c), (1, .slice ao' ads.length c'), (4, .bool false), (5, .slice oo ads.length oc), (7, .int .i64 (j : Int)), (8, .int .i64 (s.2.1 : Int)), (9, .int .i64 (s.2.2 : Int)), (10, .int .i64 (s.1 : Int))])
            (fun s w' => (s.2.1 = cntOf ads b s.1 ∧ s.2.2 = cntOf O b s.1) ∧ Ext w w' ∧ AdrsAt w' (.slice ao' ads.length c') ads ∧ AdrsAt w' (.slice oo ads.length oc) O) (fun s => ads.length - s.1) (0, 0, 0) (.cons rfl (.cons rfl (.cons rfl (.cons rfl (.cons rfl (.cons rfl (.cons rfl (.cons rfl (.nil _))))))))) ⟨⟨rfl, rfl⟩, by assumption, had, hO1⟩ ?_
          clear had hO1 hE0
          rintro s w2 ⟨⟨hn1, hn2⟩, hE0, had, hO1⟩
          by_cases hkl : s.1 < ads.length
          · obtain ⟨a1, h1⟩ : ∃ a, ads[s.1]? = some a := ⟨_, List.getElem?_eq_getElem hkl⟩
            obtain ⟨a2, h2⟩ : ∃ a, O[s.1]? = some a := ⟨_, List.getElem?_eq_getElem (by omega)⟩
            have hw1 := hads a1 (List.mem_of_getElem? h1)
            have hw2 := hwo a2 (List.mem_of_getElem? h2)
            obtain ⟨d, rfl, hr1⟩ := adr_row had h1
            obtain ⟨d', e, hrb⟩ := adr_row had hbj
            cases e
            obtain ⟨d', rfl, hr2⟩ := adr_row hO1 h2
            have hc1 := cnt_le ads b s.1
            have hc2 := cnt_le O b s.1
            have e1 : a1 = b → s.2.1 + 1 = cntOf ads b (s.1 + 1) := fun h => by rw [cnt_yes h1 h, hn1]
            have e2 : ¬ a1 = b → s.2.1 = cntOf ads b (s.1 + 1) := fun h => by rw [cnt_no h1 h, hn1]
            have e3 : a2 = b → s.2.2 + 1 = cntOf O b (s.1 + 1) := fun h => by rw [cnt_yes h2 h, hn2]
            have e4 : ¬ a2 = b → s.2.2 = cntOf O b (s.1 + 1) := fun h => by rw [cnt_no h2 h, hn2]
            refine Cd.seq ?_
            refine Cd.seq ?_
            refine Cd.region ?_
            refine Seg.step rfl rfl (Yd.move rfl) ?_
            refine Seg.step rfl rfl (Yd.move rfl) ?_
            refine Seg.step rfl rfl (Yd.lenS rfl rfl) ?_
            refine Seg.step rfl rfl (Yd.lss rfl rfl) ?_
            refine Seg.nil ?_
            refine At.then_ ?_
            refine Cd.condk rfl (fun h149 => ?_) (fun h149 => ?_)
            rotate_left 1
            · exfalso; omega
            rotate_right 1
            refine Cd.skip ?_
            refine At.then_ ?_
            refine Cd.seq ?_
            refine Cd.block ?_
            refine Cd.seq ?_
            refine Cd.seq ?_
            refine Cd.quiet (by kernel_rfl) (by kernel_rfl) ?_
            refine SegQ.step rfl rfl (fun w' hw' => Yd.move rfl) ?_
            refine SegQ.step rfl rfl (fun w' hw' => Yd.move rfl) ?_
            refine SegQ.step rfl rfl (fun w' hw' => Yd.indexAddr rfl rfl rfl (NatOf.cast _) (by omega)) ?_
            refine SegQ.step rfl rfl (fun w' hw' => Yd.loadN rfl rfl rfl (hr1.ext hw')) ?_
            refine SegQ.step rfl rfl (fun w' hw' => Yd.move rfl) ?_
            refine SegQ.step rfl rfl (fun w' hw' => Yd.move rfl) ?_
            refine SegQ.step rfl rfl (fun w' hw' => Yd.indexAddr rfl rfl rfl (NatOf.cast _) (by omega)) ?_
            refine SegQ.step rfl rfl (fun w' hw' => Yd.loadN rfl rfl rfl (hrb.ext hw')) ?_
            refine SegQ.step rfl rfl (fun w' hw' => Yd.eqlD rfl rfl (by kernel_rfl) (by kernel_rfl) (by kernel_rfl) (by kernel_rfl) (adr_lits a1 hw1) (adr_lits b hbw) (adr_eq a1 b)) ?_
            refine SegQ.nil fun w150 hE150 => ?_
            replace hE0 := Ext.trans hE0 hE150
            replace hr1 := hr1.ext hE150
            replace had := had.ext hE150
            replace hrb := hrb.ext hE150
            replace hr2 := hr2.ext hE150
            replace hO1 := hO1.ext hE150
            refine At.then_ ?_
            refine Cd.condk rfl (fun q1 => ?_) (fun q1 => ?_)
            · refine Cd.region ?_
              refine Seg.step rfl rfl (Yd.move rfl) ?_
              refine Seg.step rfl rfl (Yd.addI rfl rfl (by omega)) ?_
              refine Seg.step rfl rfl (Yd.assign rfl) ?_
              refine Seg.nil ?_
              refine At.then_ ?_
              refine Cd.seq ?_
              refine Cd.quiet (by kernel_rfl) (by kernel_rfl) ?_
              refine SegQ.step rfl rfl (fun w' hw' => Yd.move rfl) ?_
              refine SegQ.step rfl rfl (fun w' hw' => Yd.move rfl) ?_
              refine SegQ.step rfl rfl (fun w' hw' => Yd.indexAddr rfl rfl rfl (NatOf.cast _) (by omega)) ?_
              refine SegQ.step rfl rfl (fun w' hw' => Yd.loadN rfl rfl rfl (hr2.ext hw')) ?_
              refine SegQ.step rfl rfl (fun w' hw' => Yd.move rfl) ?_
              refine SegQ.step rfl rfl (fun w' hw' => Yd.move rfl) ?_
              refine SegQ.step rfl rfl (fun w' hw' => Yd.indexAddr rfl rfl rfl (NatOf.cast _) (by omega)) ?_
              refine SegQ.step rfl rfl (fun w' hw' => Yd.loadN rfl rfl rfl (hrb.ext hw')) ?_
              refine SegQ.step rfl rfl (fun w' hw' => Yd.eqlD rfl rfl (by kernel_rfl) (by kernel_rfl) (by kernel_rfl) (by kernel_rfl) (adr_lits a2 hw2) (adr_lits b hbw) (adr_eq a2 b)) ?_
              refine SegQ.nil fun w151 hE151 => ?_
              replace hE150 := Ext.trans hE150 hE151
              replace hE0 := Ext.trans hE0 hE151
              replace hr1 := hr1.ext hE151
              replace had := had.ext hE151
              replace hrb := hrb.ext hE151
              replace hr2 := hr2.ext hE151
              replace hO1 := hO1.ext hE151
              refine At.then_ ?_
              refine Cd.condk rfl (fun h153 => ?_) (fun h153 => ?_)
              · refine Cd.region ?_
                refine Seg.step rfl rfl (Yd.move rfl) ?_
                refine Seg.step rfl rfl (Yd.addI rfl rfl (by omega)) ?_
                refine Seg.step rfl rfl (Yd.assign rfl) ?_
                refine Seg.nil ?_
                refine At.blk ?_
                refine At.then_ ?_
                refine Cd.region ?_
                refine Seg.step rfl rfl (Yd.move rfl) ?_
                refine Seg.step rfl rfl (Yd.addI rfl rfl (by omega)) ?_
                refine Seg.step rfl rfl (Yd.assign rfl) ?_
                refine Seg.nil ?_
                exact At.round (s.1 + 1, s.2.1 + 1, s.2.2 + 1) (.cons rfl (.cons rfl (.cons rfl (.cons rfl (.cons rfl (.cons rfl (.cons rfl (.cons rfl (.nil _))))))))) ⟨⟨e1 (by assumption), e3 (by assumption)⟩, by assumption, had, hO1⟩ (by simp only; omega)
              · refine Cd.skip ?_
                refine At.blk ?_
                refine At.then_ ?_
                refine Cd.region ?_
                refine Seg.step rfl rfl (Yd.move rfl) ?_
                refine Seg.step rfl rfl (Yd.addI rfl rfl (by omega)) ?_
                refine Seg.step rfl rfl (Yd.assign rfl) ?_
                refine Seg.nil ?_
                exact At.round (s.1 + 1, s.2.1 + 1, s.2.2) (.cons rfl (.cons rfl (.cons rfl (.cons rfl (.cons rfl (.cons rfl (.cons rfl (.cons rfl (.nil _))))))))) ⟨⟨e1 (by assumption), e4 (by assumption)⟩, by assumption, had, hO1⟩ (by simp only; omega)
            · refine Cd.skip ?_
              refine At.then_ ?_
              refine Cd.seq ?_
              refine Cd.quiet (by kernel_rfl) (by kernel_rfl) ?_
              refine SegQ.step rfl rfl (fun w' hw' => Yd.move rfl) ?_
              refine SegQ.step rfl rfl (fun w' hw' => Yd.move rfl) ?_
              refine SegQ.step rfl rfl (fun w' hw' => Yd.indexAddr rfl rfl rfl (NatOf.cast _) (by omega)) ?_
              refine SegQ.step rfl rfl (fun w' hw' => Yd.loadN rfl rfl rfl (hr2.ext hw')) ?_
              refine SegQ.step rfl rfl (fun w' hw' => Yd.move rfl) ?_
              refine SegQ.step rfl rfl (fun w' hw' => Yd.move rfl) ?_
              refine SegQ.step rfl rfl (fun w' hw' => Yd.indexAddr rfl rfl rfl (NatOf.cast _) (by omega)) ?_
              refine SegQ.step rfl rfl (fun w' hw' => Yd.loadN rfl rfl rfl (hrb.ext hw')) ?_
              refine SegQ.step rfl rfl (fun w' hw' => Yd.eqlD rfl rfl (by kernel_rfl) (by kernel_rfl) (by kernel_rfl) (by kernel_rfl) (adr_lits a2 hw2) (adr_lits b hbw) (adr_eq a2 b)) ?_
              refine SegQ.nil fun w151 hE151 => ?_
              replace hE150 := Ext.trans hE150 hE151
              replace hE0 := Ext.trans hE0 hE151
              replace hr1 := hr1.ext hE151
              replace had := had.ext hE151
              replace hrb := hrb.ext hE151
              replace hr2 := hr2.ext hE151
              replace hO1 := hO1.ext hE151
              refine At.then_ ?_
              refine Cd.condk rfl (fun h153 => ?_) (fun h153 => ?_)
              · refine Cd.region ?_
                refine Seg.step rfl rfl (Yd.move rfl) ?_
                refine Seg.step rfl rfl (Yd.addI rfl rfl (by omega)) ?_
                refine Seg.step rfl rfl (Yd.assign rfl) ?_
                refine Seg.nil ?_
                refine At.blk ?_
                refine At.then_ ?_
                refine Cd.region ?_
                refine Seg.step rfl rfl (Yd.move rfl) ?_
                refine Seg.step rfl rfl (Yd.addI rfl rfl (by omega)) ?_
                refine Seg.step rfl rfl (Yd.assign rfl) ?_
                refine Seg.nil ?_
                exact At.round (s.1 + 1, s.2.1, s.2.2 + 1) (.cons rfl (.cons rfl (.cons rfl (.cons rfl (.cons rfl (.cons rfl (.cons rfl (.cons rfl (.nil _))))))))) ⟨⟨e2 (by assumption), e3 (by assumption)⟩, by assumption, had, hO1⟩ (by simp only; omega)
              · refine Cd.skip ?_
                refine At.blk ?_
                refine At.then_ ?_
                refine Cd.region ?_
                refine Seg.step rfl rfl (Yd.move rfl) ?_
                refine Seg.step rfl rfl (Yd.addI rfl rfl (by omega)) ?_
                refine Seg.step rfl rfl (Yd.assign rfl) ?_
                refine Seg.nil ?_
                exact At.round (s.1 + 1, s.2.1, s.2.2) (.cons rfl (.cons rfl (.cons rfl (.cons rfl (.cons rfl (.cons rfl (.cons rfl (.cons rfl (.nil _))))))))) ⟨⟨e2 (by assumption), e4 (by assumption)⟩, by assumption, had, hO1⟩ (by simp only; omega)
          · have hnm : s.2.1 = s.2.2 := by
              rw [hn1, hn2]
              unfold cntOf
              rw [List.take_of_length_le (by omega), List.take_of_length_le (by omega), hcnt]
            refine Cd.seq ?_
            refine Cd.seq ?_
            refine Cd.region ?_
            refine Seg.step rfl rfl (Yd.move rfl) ?_
            refine Seg.step rfl rfl (Yd.move rfl) ?_
            refine Seg.step rfl rfl (Yd.lenS rfl rfl) ?_
            refine Seg.step rfl rfl (Yd.lss rfl rfl) ?_
            refine Seg.nil ?_
            refine At.then_ ?_
            refine Cd.condk rfl (fun h149 => ?_) (fun h149 => ?_)
            · exfalso; omega
            · refine Cd.exit ?_
              refine At.then_exit ?_
              refine At.then_exit ?_
              refine At.blk_same ?_
              refine At.then_ ?_
              refine Cd.seq ?_
              refine Cd.region ?_
              refine Seg.step rfl rfl (Yd.move rfl) ?_
              refine Seg.step rfl rfl (Yd.move rfl) ?_
              refine Seg.step rfl rfl (Yd.neq rfl rfl) ?_
              refine Seg.nil ?_
              refine At.then_ ?_
              refine Cd.condk rfl (fun h163 => ?_) (fun h163 => ?_)
              · exfalso; omega
              · refine Cd.skip ?_
                refine At.blk ?_
                refine At.then_ ?_
                refine Cd.region ?_
                refine Seg.step rfl rfl (Yd.move rfl) ?_
                refine Seg.step rfl rfl (Yd.addI rfl rfl (by omega)) ?_
                refine Seg.step rfl rfl (Yd.assign rfl) ?_
                refine Seg.nil ?_
                exact At.round (j + 1) (.cons rfl (.cons rfl (.cons rfl (.cons rfl (.cons rfl (.nil _)))))) ⟨by assumption, had, hO1⟩ (by omega)
        · refine Cd.seq ?_
          refine Cd.seq ?_
          refine Cd.region ?_
          refine Seg.step rfl rfl (Yd.move rfl) ?_
          refine Seg.step rfl rfl (Yd.move rfl) ?_
          refine Seg.step rfl rfl (Yd.lenS rfl rfl) ?_
          refine Seg.step rfl rfl (Yd.lss rfl rfl) ?_
          refine Seg.nil ?_
          refine At.then_ ?_
          refine Cd.condk rfl (fun h139 => ?_) (fun h139 => ?_)
          · exfalso; omega
          · refine Cd.exit ?_
            refine At.then_exit ?_
            refine At.then_exit ?_
            refine At.blk_same ?_
            refine At.then_ ?_
            refine Cd.seq ?_
            refine Cd.region ?_
            refine Seg.step rfl rfl (Yd.assign rfl) ?_
            refine Seg.nil ?_
            refine At.then_ ?_
            refine Cd.ret ?_
            exact At.ret Try.results4 (.tmp rfl .nil) ⟨rfl, by assumption⟩
    · refine Cd.seq ?_
      refine Cd.region ?_
      refine Seg.step rfl rfl (Yd.assign rfl) ?_
      refine Seg.nil ?_
      refine At.then_ ?_
      refine Cd.seq ?_
      refine Cd.seq ?_
      refine Cd.region ?_
      (refine Seg.call rfl rfl (own_of rfl) rfl (works5 _) ?_; rintro _ w69 ⟨rfl, hE69⟩)
      replace hE0 := Ext.trans hE0 hE69
      replace hps := hps.ext hE69
      replace had := had.ext hE69
      refine Seg.step rfl rfl (Yd.not rfl) ?_
      refine Seg.step rfl rfl (Yd.move rfl) ?_
      refine Seg.step rfl rfl (Yd.move rfl) ?_
      refine Seg.step rfl rfl (Yd.lenS rfl rfl) ?_
      refine Seg.step rfl rfl (Yd.gtr rfl rfl) ?_
      refine Seg.step rfl rfl (Yd.pickF rfl rfl) ?_
      refine Seg.step rfl rfl (Yd.move rfl) ?_
      refine Seg.gsplitp rfl rfl (fun h77 => ?_) (fun h77 => ?_)
      · exfalso; omega
      · refine Seg.step rfl rfl (Yd.move rfl) ?_
        refine Seg.step rfl rfl (Yd.lenS rfl rfl) ?_
        refine Seg.step rfl rfl (Yd.gtr rfl rfl) ?_
        refine Seg.step rfl rfl (Yd.pickF rfl rfl) ?_
        refine Seg.nil ?_
        refine At.then_ ?_
        refine Cd.condk rfl (fun h85 => ?_) (fun h85 => ?_)
        · refine Cd.seq ?_
          refine Cd.region ?_
          (refine Seg.call rfl rfl (own_of rfl) rfl (works5 _) ?_; rintro _ w89 ⟨rfl, hE89⟩)
          replace hE69 := Ext.trans hE69 hE89
          replace hE0 := Ext.trans hE0 hE89
          replace hps := hps.ext hE89
          replace had := had.ext hE89
          refine Seg.step rfl rfl (Yd.assign rfl) ?_
          refine Seg.nil ?_
          refine At.then_ ?_
          refine Cd.ret ?_
          refine At.then_ret ?_
          exact At.ret Try.results4 (.tmp rfl .nil) ⟨rfl, by assumption⟩
        · exfalso; omega
  · refine Cd.seq ?_
    refine Cd.region ?_
    refine Seg.step rfl rfl (Yd.assign rfl) ?_
    refine Seg.nil ?_
    refine At.then_ ?_
    refine Cd.seq ?_
    refine Cd.seq ?_
    refine Cd.region ?_
    (refine Seg.call rfl rfl (own_of rfl) rfl (works5 _) ?_; rintro _ w49 ⟨rfl, hE49⟩)
    replace hE0 := Ext.trans hE0 hE49
    replace hps := hps.ext hE49
    replace had := had.ext hE49
    refine Seg.step rfl rfl (Yd.not rfl) ?_
    refine Seg.step rfl rfl (Yd.move rfl) ?_
    refine Seg.step rfl rfl (Yd.move rfl) ?_
    refine Seg.step rfl rfl (Yd.lenS rfl rfl) ?_
    refine Seg.step rfl rfl (Yd.gtr rfl rfl) ?_
    refine Seg.step rfl rfl (Yd.pickF rfl rfl) ?_
    refine Seg.step rfl rfl (Yd.move rfl) ?_
    refine Seg.gsplitp rfl rfl (fun h57 => ?_) (fun h57 => ?_)
    · refine Seg.skip rfl rfl ?_
      refine Seg.skip rfl rfl ?_
      refine Seg.skip rfl rfl ?_
      refine Seg.step rfl rfl (Yd.pickT rfl rfl) ?_
      refine Seg.nil ?_
      refine At.then_ ?_
      refine Cd.condT rfl ?_
      refine Cd.seq ?_
      refine Cd.region ?_
      (refine Seg.call rfl rfl (own_of rfl) rfl (works5 _) ?_; rintro _ w68 ⟨rfl, hE68⟩)
      replace hE49 := Ext.trans hE49 hE68
      replace hE0 := Ext.trans hE0 hE68
      replace hps := hps.ext hE68
      replace had := had.ext hE68
      refine Seg.step rfl rfl (Yd.assign rfl) ?_
      refine Seg.nil ?_
      refine At.then_ ?_
      refine Cd.ret ?_
      refine At.then_ret ?_
      exact At.ret Try.results4 (.tmp rfl .nil) ⟨rfl, by assumption⟩
    · exfalso; omega
end Go.Proofs.Ytdomaooegpeneaa
