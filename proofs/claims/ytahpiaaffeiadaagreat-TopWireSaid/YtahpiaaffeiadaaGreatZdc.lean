/- Messages read: message.Decode, in general. -/
import Derived.Test.YtahpiaaffeiadaaGreatZgr
import Derived.Test.YtahpiaaffeiadaaGreatEmk
namespace Go.Proofs.YtahpiaaffeiadaaGreat
open Go Go.RowKit
/-- What was read so far. -/
def Got (w : World) (B : Nat) (v : Value) (us : List Value) (ds : List DQ) (l : List (Value × List Rec)) : Prop := OwnQ w B v ds.length (dqC us ds) ∧ QsOwn w B us ds ∧ ∀ x ∈ l, RecsOwn w B x.1 x.2
theorem Got.ext {w w' : World} {B : Nat} {v : Value} {us : List Value} {ds : List DQ} {l : List (Value × List Rec)} (h : Got w B v us ds l) (hE : Ext w w') : Got w' B v us ds l := ⟨h.1.ext hE, h.2.1.ext hE, fun x hx => (h.2.2 x hx).ext hE⟩
theorem Got.wr {w w' : World} {B b : Nat} {v : Value} {us : List Value} {ds : List DQ} {l : List (Value × List Rec)} (h : Got w B v us ds l) (hW : Wr b w w') (hb : b < B) : Got w' B v us ds l := ⟨h.1.wr hW hb, h.2.1.wr hW hb, fun x hx => (h.2.2 x hx).wr hW hb⟩
theorem Got.snoc {w : World} {B : Nat} {v u : Value} {us : List Value} {ds : List DQ} {l : List (Value × List Rec)} {rs : List Rec} (h : Got w B v us ds l) (hR : RecsOwn w B u rs) : Got w B v us ds (l ++ [(u, rs)]) := ⟨h.1, h.2.1, fun x hx => by
  rcases List.mem_append.1 hx with hx | hx
  · exact h.2.2 x hx
  · rw [List.mem_singleton] at hx; rw [hx]; exact hR⟩
/-- Questions with their names' places. -/
def zipQ : List Value → List DQ → List Qm
  | u :: us, q :: qs => ⟨q.n, u, (q.kind : Int), (q.cls : Int)⟩ :: zipQ us qs
  | _, _ => []
theorem zip_cells : ∀ (us : List Value) (ds : List DQ), dqC us ds = (zipQ us ds).flatMap Qm.cells
  | u :: us, q :: qs => by
    show _ :: _ :: _ :: dqC us qs = _
    rw [zip_cells us qs]
    rfl
  | [], _ => by unfold dqC zipQ; rfl
  | _ :: _, [] => by unfold dqC zipQ; rfl
theorem zip_len : ∀ (us : List Value) (ds : List DQ), us.length = ds.length → (zipQ us ds).length = ds.length
  | [], [], _ => rfl
  | u :: us, q :: qs, h => by show (zipQ us qs).length + 1 = _; rw [zip_len us qs (by simpa using h)]; rfl
  | [], _ :: _, h => by cases h
  | _ :: _, [], h => by cases h
def DQ.key (d : DQ) : List (List UInt8) × Int × Int := (d.n, (d.kind : Int), (d.cls : Int))
theorem zip_key : ∀ (us : List Value) (ds : List DQ), us.length = ds.length → (zipQ us ds).map (fun q => (q.n, q.kind, q.cls)) = ds.map DQ.key
  | [], [], _ => rfl
  | u :: us, q :: qs, h => by
    show _ :: (zipQ us qs).map _ = _ :: _
    rw [zip_key us qs (by simpa using h)]
    rfl
  | [], _ :: _, h => by cases h
  | _ :: _, [], h => by cases h
theorem zip_mem : ∀ (us : List Value) (ds : List DQ) (q : Qm), q ∈ zipQ us ds → ∃ (j : Nat) (d : DQ), us[j]? = some q.v ∧ ds[j]? = some d ∧ d.n = q.n
  | u :: us, d :: ds, q, h => by
    have h : q ∈ (⟨d.n, u, (d.kind : Int), (d.cls : Int)⟩ : Qm) :: zipQ us ds := h
    rcases List.mem_cons.1 h with rfl | h
    · exact ⟨0, d, rfl, rfl, rfl⟩
    · obtain ⟨j, e, h1, h2, h3⟩ := zip_mem us ds q h
      exact ⟨j + 1, e, h1, h2, h3⟩
  | [], _, q, h => by simp [zipQ] at h
  | _ :: _, [], q, h => by simp [zipQ] at h
theorem toD_key {q : Qm} (h : in16 q.kind ∧ in16 q.cls) : q.toD.key = (q.n, q.kind, q.cls) := by
  show (q.n, ((q.kind.toNat : Nat) : Int), ((q.cls.toNat : Nat) : Int)) = _
  rw [Int.toNat_of_nonneg h.1.1, Int.toNat_of_nonneg h.2.1]
/-- The message that was read. -/
theorem got_mg {w : World} {B : Nat} {v va vu ve : Value} {us : List Value} {ds : List DQ} {an au ex : List Rec} (h : Hd) (hG : Got w B v us ds [(va, an), (vu, au), (ve, ex)]) : MgAt w ⟨h, v, zipQ us ds, va, an, vu, au, ve, ex⟩ := by
  refine ⟨⟨?_, fun q hq => ?_⟩, fun x hx => (hG.2.2 x hx).at'⟩
  · show Sl w 3 v (zipQ us ds).length ((zipQ us ds).flatMap Qm.cells)
    rw [← zip_cells, zip_len us ds hG.2.1.1]
    exact own_sl hG.1
  · obtain ⟨j, d, h1, h2, h3⟩ := zip_mem us ds q hq
    have := hG.2.1.2 j q.v d h1 h2
    rw [h3] at this
    exact own_sl this
structure DcS where
  done : List DQ
  rest : List DQ
  us : List Value
  at' : Nat
  v : Value
set_option maxHeartbeats 800000 in
theorem gdecode_any (M : Mg) (s : List UInt8) (w : World) (hM : MgRd M s) (hf : MgFit M) :
    Ret Tryz.prog 10 #[.string ⟨s.toArray⟩] w fun v w' => (∃ N : Mg, v = .tuple #[.agg N.cells.toArray, .int .i64 0] ∧ MgAt w' N ∧ N.h = M.h ∧ N.qs.map (fun q => (q.n, q.kind, q.cls)) = M.qs.map (fun q => (q.n, q.kind, q.cls)) ∧ keys N.an = keys M.an ∧ keys N.au = keys M.au ∧ keys N.ex = keys M.ex) ∧ Ext w w' := by
  obtain ⟨h, vq, qm, va, an, vu, au, ve, ex⟩ := M
  obtain ⟨hok, ⟨h12, hl⟩, ⟨Y, hY⟩, bq, hq0, hls⟩ := hM
  have hqk : qm.map (fun q => (q.n, q.kind, q.cls)) = (qm.map Qm.toD).map DQ.key := by
    rw [List.map_map]
    exact List.map_congr_left fun q hq => (toD_key (hok.2.1 q hq).2).symm
  have hqn : qm.length ≤ 20 := hf.1
  have hla : an.length ≤ 30 := (hf.2.2 (va, an) List.mem_cons_self).1
  have hlu : au.length ≤ 30 := (hf.2.2 (vu, au) (List.mem_cons_of_mem _ List.mem_cons_self)).1
  have hlx : ex.length ≤ 30 := (hf.2.2 (ve, ex) (List.mem_cons_of_mem _ (List.mem_cons_of_mem _ List.mem_cons_self))).1
  have hho : HdOk h := hok.1
  have hcl : ∀ n ∈ [qm.length, an.length, au.length, ex.length], n ≤ 65535 := by intro n hn; simp only [List.mem_cons, List.not_mem_nil, or_false] at hn; omega
  have hc0 : cntV s 4 = [.int .i64 (qm.length : Nat), .int .i64 (an.length : Nat), .int .i64 (au.length : Nat), .int .i64 (ex.length : Nat)] := by
    rw [hY]
    exact cnt_hdB rfl hcl Y
  have hhd : hdOf s = h := by rw [hY]; exact hdOf_hdB hho _ _
  obtain ⟨qs, hqs⟩ : ∃ qs, qs = qm.map Qm.toD := ⟨_, rfl⟩
  have hql2 : qm.length = qs.length := by rw [hqs, List.length_map]
  have hq : QsRd s 12 qs bq := by rw [hqs]; exact hq0
  obtain ⟨b1, hr1, b2, hr2, b3, hr3, hb3⟩ := hls
  have hb3 : b3 = s.length := hb3
  subst hb3
  simp only at hqk hr1 hr2 hr3
  rw [← hqs] at hqk
  rw [hql2] at hc0
  have hql : qs.length ≤ 65535 := by omega
  clear hok hq0 hY hqs hf hcl
  have hc := hc0
  have kM : Keep (hdOf s = h) := hhd
  have hE0 := Ext.refl w
  refine Ret.bodyD Tryz.func10 rfl Tryz.ntmps10 rfl ?_
  have h1 : ¬ (65535 : Int) < (s.length : Int) := by omega
  refine Cd.seq (Cd.region (Seg.alloc rfl rfl rfl (fun w15 b15 hE15 hB15 hb15 => ?_)))
  have hlt15_0 := Nat.le_trans hE0.size hb15
  replace hE0 := Ext.trans hE0 hE15
  refine Seg.alloc rfl rfl rfl (fun w16 b16 hE16 hB16 hb16 => ?_)
  have hlt16_0 := Nat.le_trans hE15.size hb16
  have hlt16_1 := Nat.lt_of_lt_of_le hB15.lt hb16
  have hlt16_2 := Nat.le_trans hE0.size hb16
  replace hE15 := Ext.trans hE15 hE16
  replace hB15 := hB15.ext hE16
  replace hE0 := Ext.trans hE0 hE16
  refine Seg.nil (At.then_ (Cd.seq (Cd.seq (Cd.region (Seg.step rfl rfl (Yd.move rfl) (Seg.step rfl rfl (Yd.lenStr rfl rfl) (Seg.step rfl rfl (Yd.gtr rfl rfl) ?_)))))))
  refine Seg.nil (At.then_ ?_)
  refine Cd.condk rfl (fun h27 => ?_) (fun h27 => ?_)
  · exfalso; omega
  refine Cd.skip (At.then_ (Cd.seq (Cd.region (Seg.step rfl rfl (Yd.move rfl) ?_))))
  (refine Seg.call rfl rfl (own_of rfl) rfl (hget_any s _ h12) ?_; rw [hc]; rintro _ w34 ⟨rfl, hE34⟩)
  replace hE16 := Ext.trans hE16 hE34
  replace hB16 := hB16.ext hE34
  replace hE15 := Ext.trans hE15 hE34
  replace hB15 := hB15.ext hE34
  replace hE0 := Ext.trans hE0 hE34
  refine Seg.step rfl rfl (Yd.move rfl) (Seg.step rfl rfl (Yd.extract rfl rfl) (Seg.step rfl rfl (Yd.extract rfl rfl) (Seg.step rfl rfl (Yd.extract rfl rfl) (Seg.alloc rfl rfl rfl (fun w39 b39 hE39 hB39 hb39 => ?_)))))
  have hlt39_0 := Nat.le_trans hE34.size hb39
  have hlt39_1 := Nat.le_trans hE16.size hb39
  have hlt39_2 := Nat.lt_of_lt_of_le hB16.lt hb39
  have hlt39_3 := Nat.le_trans hE15.size hb39
  have hlt39_4 := Nat.lt_of_lt_of_le hB15.lt hb39
  have hlt39_5 := Nat.le_trans hE0.size hb39
  replace hE34 := Ext.trans hE34 hE39
  replace hE16 := Ext.trans hE16 hE39
  replace hB16 := hB16.ext hE39
  replace hE15 := Ext.trans hE15 hE39
  replace hB15 := hB15.ext hE39
  replace hE0 := Ext.trans hE0 hE39
  refine Seg.alloc rfl rfl rfl (fun w40 b40 hE40 hB40 hb40 => ?_)
  have hlt40_0 := Nat.le_trans hE39.size hb40
  have hlt40_1 := Nat.lt_of_lt_of_le hB39.lt hb40
  have hlt40_2 := Nat.le_trans hE34.size hb40
  have hlt40_3 := Nat.le_trans hE16.size hb40
  have hlt40_4 := Nat.lt_of_lt_of_le hB16.lt hb40
  have hlt40_5 := Nat.le_trans hE15.size hb40
  have hlt40_6 := Nat.lt_of_lt_of_le hB15.lt hb40
  have hlt40_7 := Nat.le_trans hE0.size hb40
  replace hE39 := Ext.trans hE39 hE40
  replace hB39 := hB39.ext hE40
  replace hE34 := Ext.trans hE34 hE40
  replace hE16 := Ext.trans hE16 hE40
  replace hB16 := hB16.ext hE40
  replace hE15 := Ext.trans hE15 hE40
  replace hB15 := hB15.ext hE40
  replace hE0 := Ext.trans hE0 hE40
  refine Seg.storeN rfl rfl rfl rfl hB39 rfl (by first | assumption | exact List.all_eq_true.1 rfl) (fun w41 hW41 hB41 => ?_)
  clear hB39
  replace hB40 := hB40.wr hW41 (by omega)
  replace hE39 := Ext.wr' hE39 hW41 (by omega)
  replace hE34 := Ext.wr' hE34 hW41 (by omega)
  replace hE16 := Ext.wr' hE16 hW41 (by omega)
  replace hB16 := hB16.wr hW41 (by omega)
  replace hE15 := Ext.wr' hE15 hW41 (by omega)
  replace hB15 := hB15.wr hW41 (by omega)
  replace hE0 := Ext.wr' hE0 hW41 (by omega)
  refine Seg.storeN rfl rfl rfl rfl hB40 rfl (by first | assumption | exact List.all_eq_true.1 rfl) (fun w42 hW42 hB42 => ?_)
  clear hB40
  replace hB41 := hB41.wr hW42 (by omega)
  replace hE39 := Ext.wr' hE39 hW42 (by omega)
  replace hE34 := Ext.wr' hE34 hW42 (by omega)
  replace hE16 := Ext.wr' hE16 hW42 (by omega)
  replace hB16 := hB16.wr hW42 (by omega)
  replace hE15 := Ext.wr' hE15 hW42 (by omega)
  replace hB15 := hB15.wr hW42 (by omega)
  replace hE0 := Ext.wr' hE0 hW42 (by omega)
  refine Seg.step rfl rfl (Yd.assign rfl) (Seg.nil (At.then_ (Cd.seq (Cd.seq (Cd.region (Seg.step rfl rfl (Yd.move rfl) (Seg.step rfl rfl (Yd.neq rfl rfl) ?_)))))))
  refine Seg.nil (At.then_ (Cd.condF rfl (Cd.skip (At.then_ (Cd.seq (Cd.region (Seg.step rfl rfl (Yd.makeFunc rfl rfl) ?_)))))))
  refine Seg.defer (cap := [.pointer (some ⟨b15, 0, none⟩), .pointer (some ⟨b16, 0, none⟩)]) rfl rfl ?_
  have hEw : Keep (Ext w w42) := by assumption
  have hE9 := Ext.refl w42
  have hv15 : w.heap.size ≤ b15 := by omega
  have hv16 : w.heap.size ≤ b16 := by omega
  have hl15 := hB15.lt
  have hl16 := hB16.lt
  have hne16 : b15 < b16 := by omega
  have hH : Bx w42 b39 (hdOf s).cells := hB41
  have hC : Bx w42 b40 [.int .i64 (qs.length : Nat), .int .i64 (an.length : Nat), .int .i64 (au.length : Nat), .int .i64 (ex.length : Nat)] := hB42
  have hn39 : b39 ≠ b15 ∧ b39 ≠ b16 ∧ b40 ≠ b15 ∧ b40 ≠ b16 := by omega
  have hl39 := hB41.lt
  have hl40 := hB42.lt
  clear hB41 hB42 hW41 hW42
  refine Seg.nil (At.then_ (Cd.seq (Cd.region (Seg.step rfl rfl (Yd.move rfl) (Seg.step rfl rfl (Yd.buildT (cs := _ :: _ :: []) 2 rfl rfl rfl rfl rfl) (Seg.alloc rfl rfl rfl (fun w49 b49 hE49 hB49 hb49 => ?_)))))))
  have hlt49_0 := Nat.le_trans hE39.size hb49
  have hlt49_1 := Nat.le_trans hE34.size hb49
  have hlt49_2 := Nat.le_trans hE16.size hb49
  have hlt49_3 := Nat.lt_of_lt_of_le hB16.lt hb49
  have hlt49_4 := Nat.le_trans hE15.size hb49
  have hlt49_5 := Nat.lt_of_lt_of_le hB15.lt hb49
  have hlt49_6 := Nat.le_trans hE0.size hb49
  have hlt49_7 := Nat.le_trans hE9.size hb49
  have hlt49_8 := Nat.lt_of_lt_of_le hH.lt hb49
  have hlt49_9 := Nat.lt_of_lt_of_le hC.lt hb49
  replace hE39 := Ext.trans hE39 hE49
  replace hE34 := Ext.trans hE34 hE49
  replace hE16 := Ext.trans hE16 hE49
  replace hB16 := hB16.ext hE49
  replace hE15 := Ext.trans hE15 hE49
  replace hB15 := hB15.ext hE49
  replace hE0 := Ext.trans hE0 hE49
  replace hE9 := Ext.trans hE9 hE49
  replace hH := hH.ext hE49
  replace hC := hC.ext hE49
  refine Seg.storeN rfl rfl rfl rfl hB49 rfl (by first | assumption | exact List.all_eq_true.1 rfl) (fun w50 hW50 hB50 => ?_)
  clear hB49
  replace hE49 := Ext.wr' hE49 hW50 (by omega)
  replace hE39 := Ext.wr' hE39 hW50 (by omega)
  replace hE34 := Ext.wr' hE34 hW50 (by omega)
  replace hE16 := Ext.wr' hE16 hW50 (by omega)
  replace hB16 := hB16.wr hW50 (by omega)
  replace hE15 := Ext.wr' hE15 hW50 (by omega)
  replace hB15 := hB15.wr hW50 (by omega)
  replace hE0 := Ext.wr' hE0 hW50 (by omega)
  replace hE9 := Ext.wr' hE9 hW50 (by omega)
  replace hH := hH.wr hW50 (by omega)
  replace hC := hC.wr hW50 (by omega)
  refine Seg.nil (At.then_ (Cd.seq (Cd.region (Seg.step rfl rfl (Yd.loadN rfl rfl rfl hH.row) (Seg.step rfl rfl (Yd.fieldAddr rfl rfl) (Seg.storeP rfl rfl rfl rfl hB15 (Nat.le_of_ble_eq_true rfl) (by first | assumption | exact List.all_eq_true.1 rfl) (fun w57 hW57 hB57 => ?_)))))))
  clear hB15
  replace hB50 := hB50.wr hW57 (by omega)
  replace hB16 := hB16.wr hW57 (by omega)
  replace hE15 := Ext.wr' hE15 hW57 (by omega)
  replace hE0 := Ext.wr' hE0 hW57 (by omega)
  replace hH := hH.wr hW57 (by omega)
  replace hC := hC.wr hW57 (by omega)
  refine Seg.nil (At.then_ (Cd.seq (Cd.seq (Cd.region (Seg.step rfl rfl (Yd.indexArr1 rfl rfl rfl (NatOf.cast 0) (by omega)) (Seg.step rfl rfl (Yd.load1 rfl rfl (hC.row _ _ rfl)) (Seg.step rfl rfl (Yd.move rfl) ?_)))))))
  refine Seg.nil (At.then_ (Cd.block ?_))
  have hbm : b15 ≠ b49 := by omega
  have hl49 := hB50.lt
  have hlb15 := hB57.lt
  have hlb16 := hB16.lt
  have hE0 : Ext w w57 := by assumption
  refine Cd.loop (σ := DcS) (fun t => [(0, .string ⟨s.toArray⟩), (2, .pointer (some ⟨b15, 0, none⟩)), (3, .pointer (some ⟨b16, 0, none⟩)), (5, .pointer (some ⟨b40, 0, none⟩)), (7, .pointer (some ⟨b49, 0, none⟩)), (28, .int .i64 (qs.length : Nat)), (29, .int .i64 (t.done.length : Nat))])
    (fun t w' => (t.done ++ t.rest = qs ∧ QsRd s t.at' t.rest bq) ∧ Bx w' b15 ((hdOf s).cells ++ [t.v, .slice none 0 0, .slice none 0 0, .slice none 0 0]) ∧ Bx w' b49 [.string ⟨s.toArray⟩, .int .i64 (t.at' : Nat)] ∧ Bx w' b16 [.int .i64 0] ∧ Bx w' b40 [.int .i64 (qs.length : Nat), .int .i64 (an.length : Nat), .int .i64 (au.length : Nat), .int .i64 (ex.length : Nat)] ∧
      (OwnQ w' w57.heap.size t.v t.done.length (dqC t.us t.done) ∧ QsOwn w' w57.heap.size t.us t.done) ∧ Ext w w' ∧ w57.heap.size ≤ w'.heap.size) (fun t => t.rest.length) ⟨[], qs, [], 12, .slice none 0 0⟩ (.cons rfl (.cons rfl (.cons rfl (.cons rfl (.cons rfl (.cons rfl (.cons rfl (.nil _))))))))
    ⟨⟨rfl, hq⟩, hB57, hB50, hB16, hC, ⟨World.ownsRow_nil _ _ _ _, rfl, fun j u q h => by cases h⟩, hE0, Nat.le_refl _⟩ ?_
  have hb57 := Below.size hE0
  have kE57 : Keep (Ext w w57) := hE0
  clear hB57 hB50 hB16 hC hH hE0 hW57 hW50
  rintro ⟨done, rest, us, at', v⟩ w1 ⟨⟨hdr, hqr⟩, hBm, hBp, hB16, hC, ⟨hO, hQ⟩, hE1, hs1⟩
  simp only at hdr hqr hBm hBp hO hQ ⊢
  cases rest with
  | nil =>
    have hat : at' = bq := hqr
    have hdq : done = qs := by rw [← hdr, List.append_nil]
    subst hdq
    subst hat
    have kG : Keep (Got w1 w57.heap.size v us done []) := ⟨hO, hQ, fun x hx => by cases hx⟩
    obtain ⟨va', vc', rfl⟩ := own_shape hO
    clear hO hQ
    have hEn := Ext.refl w1
    refine Cd.seq (Cd.region (Seg.step rfl rfl (Yd.lss rfl rfl) (Seg.nil (At.then_ (Cd.seq ?_)))))
    refine Cd.condk rfl (fun h64 => ?_) (fun h64 => ?_)
    · exfalso; omega
    refine Cd.exit (At.then_exit (At.then_exit (At.blk_same (At.then_ (Cd.seq (Cd.region (Seg.step rfl rfl (Yd.indexArr1 rfl rfl rfl (NatOf.cast 1) (by omega)) ?_)))))))
    refine Seg.step rfl rfl (Yd.load1 rfl rfl (hC.row _ _ rfl)) ?_
    (refine Seg.call rfl rfl (own_of rfl) rfl (mrecs_any s b49 at' b1 an _ (by assumption) hr1 hl (by omega)) ?_; rintro v1 w75 ⟨⟨l1, hA, kA1⟩, hW75, hBr1⟩; obtain ⟨a1, c1, rfl⟩ := own_shape hA.1; have kG1 : Keep (Got w75 w57.heap.size _ us done ([] ++ [(.slice a1 l1.length c1, l1)])) := Got.snoc (Got.wr (Got.ext kG hEn) hW75 hl49) (hA.down (Nat.le_trans hs1 (Below.size hEn))); have hs1a : w57.heap.size ≤ w75.heap.size := Nat.le_trans (Nat.le_trans hs1 (Below.size hEn)) hW75.size; have hEa1 := Ext.refl w75; clear hA)
    replace hB16 := hB16.wr hW75 (by omega)
    replace hE1 := Ext.wr' hE1 hW75 (by omega)
    replace hC := hC.wr hW75 (by omega)
    replace hBm := hBm.wr hW75 (by omega)
    refine Seg.step rfl rfl (Yd.fieldAddr rfl rfl) ?_
    (refine Seg.store1 (k := 11) rfl rfl rfl rfl rfl (by assumption : Bx _ b15 _) (by show 11 < 14; decide) (fun w77 hW77 hB77 => ?_); have kH1 : Keep (Got w77 w57.heap.size _ us done ([] ++ [(.slice a1 l1.length c1, l1)])) := Got.wr (Got.ext kG1 hEa1) hW77 hlb15; have hs1b : w57.heap.size ≤ w77.heap.size := Nat.le_trans (Nat.le_trans hs1a (Below.size hEa1)) hW77.size; have hEb1 := Ext.refl w77; replace hC := hC.wr hW77 hn39.2.2.1; replace hB16 := hB16.wr hW77 (by omega); replace hBr1 := hBr1.wr hW77 (Ne.symm hbm))
    refine Seg.nil (At.then_ (Cd.seq (Cd.region (Seg.step rfl rfl (Yd.indexArr1 rfl rfl rfl (NatOf.cast 2) (by omega)) (Seg.step rfl rfl (Yd.load1 rfl rfl (hC.row _ _ rfl)) ?_)))))
    (refine Seg.call rfl rfl (own_of rfl) rfl (mrecs_any s b49 b1 b2 au _ (by assumption) hr2 hl (by omega)) ?_; rintro v2 w84 ⟨⟨l2, hA, kA2⟩, hW84, hBr2⟩; obtain ⟨a2, c2, rfl⟩ := own_shape hA.1; have kG2 : Keep (Got w84 w57.heap.size _ us done (([] ++ [(.slice a1 l1.length c1, l1)]) ++ [(.slice a2 l2.length c2, l2)])) := Got.snoc (Got.wr (Got.ext kH1 hEb1) hW84 hl49) (hA.down (Nat.le_trans hs1b (Below.size hEb1))); have hs2a : w57.heap.size ≤ w84.heap.size := Nat.le_trans (Nat.le_trans hs1b (Below.size hEb1)) hW84.size; have hEa2 := Ext.refl w84; clear hA)
    replace hB77 := hB77.wr hW84 (by omega)
    replace hC := hC.wr hW84 (by omega)
    replace hB16 := hB16.wr hW84 (by omega)
    refine Seg.step rfl rfl (Yd.fieldAddr rfl rfl) ?_
    (refine Seg.store1 (k := 12) rfl rfl rfl rfl rfl (by assumption : Bx _ b15 _) (by show 12 < 14; decide) (fun w86 hW86 hB86 => ?_); have kH2 : Keep (Got w86 w57.heap.size _ us done (([] ++ [(.slice a1 l1.length c1, l1)]) ++ [(.slice a2 l2.length c2, l2)])) := Got.wr (Got.ext kG2 hEa2) hW86 hlb15; have hs2b : w57.heap.size ≤ w86.heap.size := Nat.le_trans (Nat.le_trans hs2a (Below.size hEa2)) hW86.size; have hEb2 := Ext.refl w86; replace hC := hC.wr hW86 hn39.2.2.1; replace hB16 := hB16.wr hW86 (by omega); replace hBr2 := hBr2.wr hW86 (Ne.symm hbm))
    refine Seg.nil (At.then_ (Cd.seq (Cd.region (Seg.step rfl rfl (Yd.indexArr1 rfl rfl rfl (NatOf.cast 3) (by omega)) (Seg.step rfl rfl (Yd.load1 rfl rfl (hC.row _ _ rfl)) ?_)))))
    (refine Seg.call rfl rfl (own_of rfl) rfl (mrecs_any s b49 b2 s.length ex _ (by assumption) hr3 hl (by omega)) ?_; rintro v3 w93 ⟨⟨l3, hA, kA3⟩, hW93, hBr3⟩; obtain ⟨a3, c3, rfl⟩ := own_shape hA.1; have kG3 : Keep (Got w93 w57.heap.size _ us done ((([] ++ [(.slice a1 l1.length c1, l1)]) ++ [(.slice a2 l2.length c2, l2)]) ++ [(.slice a3 l3.length c3, l3)])) := Got.snoc (Got.wr (Got.ext kH2 hEb2) hW93 hl49) (hA.down (Nat.le_trans hs2b (Below.size hEb2))); have hs3a : w57.heap.size ≤ w93.heap.size := Nat.le_trans (Nat.le_trans hs2b (Below.size hEb2)) hW93.size; have hEa3 := Ext.refl w93; clear hA)
    replace hB86 := hB86.wr hW93 (by omega)
    replace hC := hC.wr hW93 (by omega)
    replace hB16 := hB16.wr hW93 (by omega)
    refine Seg.step rfl rfl (Yd.fieldAddr rfl rfl) ?_
    (refine Seg.store1 (k := 13) rfl rfl rfl rfl rfl (by assumption : Bx _ b15 _) (by show 13 < 14; decide) (fun w95 hW95 hB95 => ?_); have kH3 : Keep (Got w95 w57.heap.size _ us done ((([] ++ [(.slice a1 l1.length c1, l1)]) ++ [(.slice a2 l2.length c2, l2)]) ++ [(.slice a3 l3.length c3, l3)])) := Got.wr (Got.ext kG3 hEa3) hW95 hlb15; have hs3b : w57.heap.size ≤ w95.heap.size := Nat.le_trans (Nat.le_trans hs3a (Below.size hEa3)) hW95.size; have hEb3 := Ext.refl w95; replace hC := hC.wr hW95 hn39.2.2.1; replace hB16 := hB16.wr hW95 (by omega); replace hBr3 := hBr3.wr hW95 (Ne.symm hbm))
    refine Seg.nil (At.then_ (Cd.seq (Cd.seq (Cd.region (Seg.step rfl rfl (Yd.fieldAddr rfl rfl) (Seg.step rfl rfl (Yd.load1 rfl rfl (hBr3.row _ _ rfl)) (Seg.step rfl rfl (Yd.move rfl) ?_)))))))
    refine Seg.step rfl rfl (Yd.lenStr rfl rfl) (Seg.step rfl rfl (Yd.lss rfl rfl) (Seg.nil (At.then_ ?_)))
    refine Cd.condk rfl (fun h108 => ?_) (fun h108 => ?_)
    · exfalso; omega
    refine Cd.skip (At.then_ (Cd.seq (Cd.region (Seg.step rfl rfl (Yd.loadN rfl rfl rfl hB95.row) (Seg.storeN rfl rfl rfl rfl hB95 rfl (by first | assumption | exact List.all_eq_true.1 rfl) (fun w115 hW115 hB115 => ?_))))))
    clear hB95
    replace hW95 := Wr.trans hW95 hW115
    replace hC := hC.wr hW115 (by omega)
    replace hB16 := hB16.wr hW115 (by omega)
    replace hBr3 := hBr3.wr hW115 (by omega)
    refine Seg.store1h rfl rfl rfl rfl rfl hB16 (by first | omega | (simp; done) | exact Nat.le_of_ble_eq_true rfl) (fun w116 hW116 hB116 => ?_)
    clear hB16
    replace hB115 := hB115.wr hW116 (by omega)
    replace hC := hC.wr hW116 (by omega)
    replace hBr3 := hBr3.wr hW116 (by omega)
    refine Seg.nil (At.then_ (Cd.ret ?_))
    exact At.retD1 (f := 30) Tryz.results10 (own_of rfl) (mdec1_idle _ _ _) (.cell rfl (run_loadVarN rfl rfl (show Row w116 ⟨b15, 0, none⟩ (Mg.cells ⟨hdOf s, .slice va' done.length vc', zipQ us done, .slice a1 l1.length c1, l1, .slice a2 l2.length c2, l2, .slice a3 l3.length c3, l3⟩) from hB115.row)) (.cell rfl (run_loadVar1 rfl (show Bx w116 b16 [.int .i64 0] from hB116).row.head) .nil)) ⟨⟨⟨hdOf s, .slice va' done.length vc', zipQ us done, .slice a1 l1.length c1, l1, .slice a2 l2.length c2, l2, .slice a3 l3.length c3, l3⟩, rfl, got_mg _ (Got.wr (Got.wr kH3 hW115 hlb15) hW116 hlb16), kM, (zip_key us done (show Got _ _ _ _ _ _ from kH3).2.1.1).trans hqk.symm, kA1, kA2, kA3⟩, Ext.wr' (Ext.wr' (Ext.wr' (Ext.wr' (Ext.wr' (Ext.wr' hE1 hW77 hv15) hW84 (by omega)) hW86 hv15) hW93 (by omega)) hW95 hv15) hW116 hv16⟩
  | cons q r =>
    obtain ⟨f, e, hR, hz, he, hk, hcl, hqr⟩ := hqr
    have hdl : (done.length : Int) < (qs.length : Int) := by rw [← hdr, List.length_append]; simp; omega
    refine Cd.seq (Cd.region (Seg.step rfl rfl (Yd.lss rfl rfl) (Seg.nil (At.then_ (Cd.seq ?_)))))
    refine Cd.condk rfl (fun h64 => ?_) (fun h64 => ?_)
    rotate_left 1
    · exfalso; omega
    rotate_right 1
    refine Cd.skip (At.then_ (Cd.seq (Cd.block (Cd.heldC (fun w' => Bx w' b15 ((hdOf s).cells ++ [v, .slice none 0 0, .slice none 0 0, .slice none 0 0])) 6 (by kernel_rfl) (fun w2 hE2 => ?_)))))
    have hBm2 := hBm.ext hE2
    have hBp2 := hBp.ext hE2
    refine SegC.take 0 rfl (by kernel_rfl) (by kernel_rfl) (by kernel_rfl) (by kernel_rfl) (by kernel_rfl) rfl rfl hBm2 (fun w' hw' => Yd.fieldAddr rfl rfl) (SegC.take 1 rfl (by kernel_rfl) (by kernel_rfl) (by kernel_rfl) (by kernel_rfl) (by kernel_rfl) rfl rfl hBm2 (fun w' hw' => Yd.load1 rfl rfl (hw'.row _ _ rfl)) (SegC.oneSeg (o := ⟨_, _, _, _, _, _⟩) 2 rfl (by kernel_rfl) (Seg.call rfl rfl (own_of rfl) rfl (mquest_any s b49 f at' e q.n _ hBp2 hR hl hz he) ?_)))
    rw [← hk, ← hcl]
    rintro _ w3 ⟨⟨u, rfl, hU3⟩, hW3, hBp3⟩
    have hBm3 := hBm2.wr hW3 hbm
    have hO3 : OwnQ w3 w57.heap.size v done.length (dqC us done) := (hO.ext hE2).wr hW3 hl49
    have hQ3 := (hQ.ext hE2).wr hW3 hl49
    have hB163 := (hB16.ext hE2).wr hW3 (by omega)
    have hC3 := (hC.ext hE2).wr hW3 (by omega)
    have hs3 := Nat.le_trans hs1 (Nat.le_trans (Below.size hE2) hW3.size)
    have hU3 : OwnS w3 w57.heap.size u q.n := own_down hU3 (Nat.le_trans hs1 (Below.size hE2))
    have hE3 : Ext w w3 := Ext.wr' (Ext.trans hE1 hE2) hW3 (by omega)
    obtain ⟨ua, uc, rfl, _, _, _⟩ := own_sl hU3
    clear hBm hBp hB16 hC hO hQ hBm2 hBp2 hE1 hs1 hE2 hW3
    refine Seg.nil (At.backC rfl hBm3 ?_)
    refine SegC.oneSeg (o := ⟨_, _, _, _, _, _⟩) 3 rfl (by kernel_rfl) ?_
    have hE3b := Ext.refl w3
    refine Seg.buildSliceV rfl rfl rfl rfl rfl rfl rfl rfl rfl rfl (fun w164 b164 hE164 hB164 hb164 hO164 => ?_)
    have hlt164_0 := Nat.lt_of_lt_of_le hBp3.lt hb164
    have hlt164_1 := Nat.lt_of_lt_of_le hBm3.lt hb164
    have hlt164_2 := Nat.lt_of_lt_of_le hB163.lt hb164
    have hlt164_3 := Nat.lt_of_lt_of_le hC3.lt hb164
    have hlt164_4 := Nat.le_trans hE3.size hb164
    have hlt164_5 := Nat.le_trans hE3b.size hb164
    replace hBp3 := hBp3.ext hE164
    replace hBm3 := hBm3.ext hE164
    replace hO3 := hO3.ext hE164
    replace hQ3 := hQ3.ext hE164
    replace hB163 := hB163.ext hE164
    replace hC3 := hC3.ext hE164
    replace hE3 := Ext.trans hE3 hE164
    replace hE3b := Ext.trans hE3b hE164
    refine Seg.nil (At.backC rfl hBm3 (SegC.oneSeg (o := ⟨_, _, _, _, _, _⟩) 4 rfl (by kernel_rfl) ?_))
    have hdn : done.length + 1 ≤ qs.length := by omega
    refine Seg.append (s := 2) (m := done.length) (m' := 1) rfl rfl rfl rfl rfl rfl rfl rfl rfl hO3 (own_sl hO164) (List.all_eq_true.1 rfl) (Nat.le_trans hs3 (Below.size hE164)) (by omega) rfl (fun v5 w5 hO5 hG5 _ => ?_)
    have hcs : dqC us done ++ List.flatMap zcells [Value.agg #[.slice ua q.n.length uc, .int .i64 (q.kind : Nat), .int .i64 (q.cls : Nat)]] = dqC (us ++ [.slice ua q.n.length uc]) (done ++ [q]) := (dqC_snoc us done _ q hQ3.1).symm
    rw [hcs] at hO5
    have hU5 := (hQ3.snoc (own_ext hU3 hE164)).kept hO3 (by decide) hG5
    have hBm5 := hBm3.grown hG5 (Ne.symm (own_noblk hO3 hlb15))
    have hBp5 := hBp3.grown hG5 (Ne.symm (own_noblk hO3 hl49))
    have hB165 := hB163.grown hG5 (Ne.symm (own_noblk hO3 hlb16))
    have hC5 := hC3.grown hG5 (Ne.symm (own_noblk hO3 (by omega)))
    have hE5 := Ext.own hE3 hO3 hb57 hG5
    have hs5 : w57.heap.size ≤ w5.heap.size := Nat.le_trans hs3 (Nat.le_trans (Below.size hE164) hG5.size)
    refine Seg.nil (At.backC rfl hBm5 ?_)
    refine SegC.oneSeg (o := ⟨_, _, _, _, _, _⟩) 5 rfl (by kernel_rfl) (Seg.step rfl rfl (Yd.fieldAddr rfl rfl) (Seg.nil (At.backC rfl hBm5 ?_)))
    refine SegC.oneSeg (o := ⟨_, _, _, _, _, _⟩) 6 rfl (by kernel_rfl) ?_
    refine Seg.store1 (k := 10) rfl rfl rfl rfl (own_one hO5) hBm5 (by show 10 < 14; decide) (fun w6 hW6 hB6 => ?_)
    refine Seg.nil (At.endC rfl (SegA.done (by kernel_rfl) ?_))
    have hBm6 : Bx w6 b15 ((hdOf s).cells ++ [v5, .slice none 0 0, .slice none 0 0, .slice none 0 0]) := hB6
    have hBp6 := hBp5.wr hW6 (Ne.symm hbm)
    have hB166 := hB165.wr hW6 (by omega)
    have hC6 := hC5.wr hW6 (by omega)
    have hO6 : OwnQ w6 w57.heap.size v5 (done.length + 1) (dqC (us ++ [.slice ua q.n.length uc]) (done ++ [q])) := OwnQ.wr hO5 hW6 hlb15
    have hQ6 := hU5.wr hW6 hlb15
    have hE6 := Ext.wr' hE5 hW6 hv15
    have hs6 := Nat.le_trans hs5 hW6.size
    have hdl1 : (done ++ [q]).length = done.length + 1 := by simp
    have hO6b : OwnQ w6 w57.heap.size v5 (done ++ [q]).length (dqC (us ++ [.slice ua q.n.length uc]) (done ++ [q])) := by rw [hdl1]; exact hO6
    have hdr2 : (done ++ [q]) ++ r = qs := by rw [List.append_assoc]; exact hdr
    clear hB6 hW6 hBm5 hBp5 hB165 hC5 hO5 hU5 hE5 hs5 hBm3 hBp3 hB163 hC3 hO3 hQ3 hE3 hs3 hU3 hE164 hB164 hO164 hG5 hcs
    refine At.blk (At.then_ (Cd.region (Seg.step rfl rfl (Yd.addI rfl rfl (by omega)) (Seg.step rfl rfl (Yd.move rfl) (Seg.nil ?_)))))
    exact At.round (⟨done ++ [q], r, us ++ [.slice ua q.n.length uc], e + 4, v5⟩ : DcS) (by rw [hdl1]; exact (.cons rfl (.cons rfl (.cons rfl (.cons rfl (.cons rfl (.cons rfl (.cons rfl (.nil _))))))))) ⟨⟨hdr2, hqr⟩, hBm6, hBp6, hB166, hC6, ⟨hO6b, hQ6⟩, hE6, hs6⟩ (Nat.lt_succ_self _)
end Go.Proofs.YtahpiaaffeiadaaGreat
