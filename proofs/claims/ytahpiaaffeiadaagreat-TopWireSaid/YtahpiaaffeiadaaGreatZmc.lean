/- Whole messages: their cells; message.lists, message.Check. -/
import Derived.Test.YtahpiaaffeiadaaGreatZwq
namespace Go.Proofs.YtahpiaaffeiadaaGreat
open Go Go.RowKit
/-- A question as it is given. -/
structure Qm where
  n : List (List UInt8)
  v : Value
  kind : Int
  cls : Int
def Qm.cells (q : Qm) : List Value := [q.v, .int .i64 q.kind, .int .i64 q.cls]
def QmAt (w : World) (vq : Value) (qs : List Qm) : Prop := Sl w 3 vq qs.length (qs.flatMap Qm.cells) ∧ ∀ q ∈ qs, NameAt w q.v q.n
theorem QmAt.ext {w w' : World} {vq : Value} {qs : List Qm} (h : QmAt w vq qs) (hE : Ext w w') : QmAt w' vq qs := ⟨h.1.ext hE, fun q hq => Sl.ext (h.2 q hq) hE⟩
theorem qm_row {qs : List Qm} {i : Nat} {q : Qm} (h : qs[i]? = some q) : ((qs.flatMap Qm.cells).drop (i * 3)).take 3 = q.cells := by
  induction qs generalizing i with
  | nil => cases h
  | cons a qs ih =>
    cases i with
    | zero => cases h; rfl
    | succ i =>
      have := ih (i := i) (by simpa using h)
      rw [List.flatMap_cons, show (i + 1) * 3 = a.cells.length + i * 3 by show _ = 3 + i * 3; omega, ← List.drop_drop, List.drop_left]
      exact this
structure Mg where
  h : Hd
  vq : Value
  qs : List Qm
  va : Value
  an : List Rec
  vu : Value
  au : List Rec
  ve : Value
  ex : List Rec
def Mg.cells (M : Mg) : List Value := M.h.cells ++ [M.vq, M.va, M.vu, M.ve]
def Mg.ls (M : Mg) : List (Value × List Rec) := [(M.va, M.an), (M.vu, M.au), (M.ve, M.ex)]
def MgAt (w : World) (M : Mg) : Prop := QmAt w M.vq M.qs ∧ ∀ x ∈ M.ls, RecsAt w x.1 x.2
theorem MgAt.ext {w w' : World} {M : Mg} (h : MgAt w M) (hE : Ext w w') : MgAt w' M := ⟨h.1.ext hE, fun x hx => (h.2 x hx).ext hE⟩
def MgFit (M : Mg) : Prop := M.qs.length ≤ 20 ∧ (∀ q ∈ M.qs, Fit q.n) ∧ ∀ x ∈ M.ls, x.2.length ≤ 30 ∧ ∀ r ∈ x.2, FitR r ∧ WfR r
def MgOk (M : Mg) : Prop := HdOk M.h ∧ (∀ q ∈ M.qs, chkN q.n = 0 ∧ in16 q.kind ∧ in16 q.cls) ∧ ∀ x ∈ M.ls, ∀ r ∈ x.2, RecOk r
theorem ls_slice {w : World} {M : Mg} (h : MgAt w M) {i : Nat} {x : Value × List Rec} (hi : M.ls[i]? = some x) : ∃ ao c, x.1 = .slice ao x.2.length c ∧ (∀ a, ao = some a → Row w a (recsV x.2)) ∧ (ao = none → x.2.length = 0) ∧ (∀ r ∈ x.2, RecAt w r) ∧ [M.va, M.vu, M.ve][i]? = some (.slice ao x.2.length c) := by
  obtain ⟨⟨ao, c, e, _, h1, h2⟩, h3⟩ := h.2 x (List.mem_of_getElem? hi)
  refine ⟨ao, c, e, h1, h2, h3, ?_⟩
  have : [M.va, M.vu, M.ve][i]? = (M.ls[i]?).map Prod.fst := by
    rcases i with _ | _ | _ | i <;> rfl
  rw [this, hi]
  exact congrArg some e
theorem ls_len (M : Mg) : M.ls.length = 3 := rfl
theorem glists_any (M : Mg) (w : World) (h : MgAt w M) : Ret Tryz.prog 20 #[.agg M.cells.toArray] w fun v w' => v = .agg #[M.va, M.vu, M.ve] ∧ Ext w w' := by
  have hE0 := Ext.refl w
  obtain ⟨h, vq, qs, va, an, vu, au, ve, ex⟩ := M
  obtain ⟨⟨⟨_, _, e0, _⟩, _⟩, hl⟩ := h
  obtain ⟨⟨_, _, e1, _⟩, _⟩ := hl (va, an) List.mem_cons_self
  obtain ⟨⟨_, _, e2, _⟩, _⟩ := hl (vu, au) (List.mem_cons_of_mem _ List.mem_cons_self)
  obtain ⟨⟨_, _, e3, _⟩, _⟩ := hl (ve, ex) (List.mem_cons_of_mem _ (List.mem_cons_of_mem _ List.mem_cons_self))
  simp only at e0 e1 e2 e3
  subst e0
  subst e1
  subst e2
  subst e3
  clear hl
  refine Ret.body Tryz.func20 rfl Tryz.ntmps20 rfl (Cd.seq (Cd.region (Seg.box rfl rfl rfl (fun w3 b3 hE3 hB3 hb3 => ?_))))
  have hlt3_0 := Nat.le_trans hE0.size hb3
  replace hE0 := Ext.trans hE0 hE3
  refine Seg.alloc rfl rfl rfl (fun w4 b4 hE4 hB4 hb4 => ?_)
  have hlt4_0 := Nat.le_trans hE3.size hb4
  have hlt4_1 := Nat.lt_of_lt_of_le hB3.lt hb4
  have hlt4_2 := Nat.le_trans hE0.size hb4
  replace hE3 := Ext.trans hE3 hE4
  replace hB3 := hB3.ext hE4
  replace hE0 := Ext.trans hE0 hE4
  refine Seg.nil (At.then_ (Cd.seq (Cd.region (Seg.step rfl rfl (Yd.fieldAddr rfl rfl) (Seg.step rfl rfl (Yd.load1 rfl rfl (hB3.row _ _ rfl)) (Seg.step rfl rfl (Yd.fieldAddr rfl rfl) (Seg.step rfl rfl (Yd.load1 rfl rfl (hB3.row _ _ rfl)) ?_)))))))
  refine Seg.step rfl rfl (Yd.fieldAddr rfl rfl) (Seg.step rfl rfl (Yd.load1 rfl rfl (hB3.row _ _ rfl)) (Seg.step rfl rfl (Yd.buildArrT (cs := _ :: _ :: _ :: []) 3 rfl rfl rfl rfl rfl) (Seg.storeN rfl rfl rfl rfl hB4 rfl (by first | assumption | exact List.all_eq_true.1 rfl) (fun w16 hW16 hB16 => ?_))))
  clear hB4
  replace hE4 := Ext.wr' hE4 hW16 (by omega)
  replace hE3 := Ext.wr' hE3 hW16 (by omega)
  replace hB3 := hB3.wr hW16 (by omega)
  replace hE0 := Ext.wr' hE0 hW16 (by omega)
  refine Seg.nil (At.then_ (Cd.ret ?_))
  exact At.ret Tryz.results20 (.cell rfl (run_loadVarN rfl rfl (Bx.row (by assumption))) .nil) ⟨rfl, by assumption⟩
theorem rec_one {w : World} {r : Rec} (h : RecAt w r) : ∀ c ∈ r.cells, c.oneCell' = true := by
  intro c hc
  obtain ⟨⟨_, _, e1, _⟩, ⟨_, _, e2, _⟩, ⟨_, _, e3, _⟩⟩ := h
  simp only [Rec.cells, List.mem_cons, List.not_mem_nil, or_false] at hc
  rcases hc with rfl | rfl | rfl | rfl | rfl | rfl | rfl | rfl | rfl | rfl | rfl | rfl | rfl | rfl | rfl | rfl | rfl | rfl | rfl | rfl | rfl | rfl | rfl | rfl | rfl | rfl | rfl | rfl | rfl | rfl | rfl | rfl | rfl <;> first | rfl | (rw [e1]; rfl) | (rw [e2]; rfl) | (rw [e3]; rfl)
theorem in_take {α : Type} {l : List α} {i : Nat} {x : α} {P : α → Prop} (h : l[i]? = some x) (hT : ∀ y ∈ l.take i, P y) (hx : P x) : ∀ y ∈ l.take (i + 1), P y := fun y hy => by
  rw [take_snoc h] at hy
  rcases List.mem_append.1 hy with hy | hy
  · exact hT y hy
  · rw [List.mem_singleton] at hy; rw [hy]; exact hx
theorem gcheck_any (M : Mg) (w : World) (hM : MgAt w M) (hf : MgFit M) : Ret Tryz.prog 15 #[.agg M.cells.toArray] w fun v w' => (∃ e, v = .int .i64 e ∧ (e = 0 → MgOk M)) ∧ Ext w w' := by
  have hE0 := Ext.refl w
  obtain ⟨h, vq, qs, va, an, vu, au, ve, ex⟩ := M
  have hM1 := hM
  obtain ⟨⟨⟨ao, c, evq, hl0, hr0, hz0⟩, hnm⟩, _⟩ := hM1
  simp only at evq hl0 hz0 hnm
  subst evq
  have kM : Keep (MgAt w (⟨h, .slice ao qs.length c, qs, va, an, vu, au, ve, ex⟩ : Mg)) := hM
  clear hM
  have hql : qs.length ≤ 20 := hf.1
  refine Ret.body Tryz.func15 rfl Tryz.ntmps15 rfl ?_
  by_cases hh : HdOk h
  · refine Cd.seq (Cd.region (Seg.box rfl rfl rfl (fun w3 b3 hE3 hB3 hb3 => ?_)))
    have hlt3_0 := Nat.le_trans hE0.size hb3
    replace hE0 := Ext.trans hE0 hE3
    refine Seg.step rfl rfl (Yd.assign rfl) (Seg.nil (At.then_ (Cd.seq (Cd.seq (Cd.region (Seg.step rfl rfl (Yd.fieldAddr rfl rfl) (Seg.step rfl rfl (Yd.loadN rfl rfl rfl (show Row _ (Addr.add _ 0) h.cells from hB3.row.part 0 10)) ?_)))))))
    (refine Seg.call rfl rfl (own_of rfl) rfl (hcheck_any h _) ?_; rw [if_pos hh]; rintro _ w12 ⟨rfl, hE12⟩)
    replace hE3 := Ext.trans hE3 hE12
    replace hB3 := hB3.ext hE12
    replace hE0 := Ext.trans hE0 hE12
    refine Seg.step rfl rfl (Yd.assign rfl) (Seg.nil (At.then_ (Cd.seq (Cd.region (Seg.step rfl rfl (Yd.move rfl) (Seg.step rfl rfl (Yd.neq rfl rfl) (Seg.nil ?_)))))))
    refine At.then_ (Cd.condF rfl (Cd.skip (At.then_ (Cd.seq (Cd.seq (Cd.region (Seg.step rfl rfl (Yd.fieldAddr rfl rfl) ?_)))))))
    refine Seg.step rfl rfl (Yd.load1 rfl rfl (hB3.row _ _ rfl)) (Seg.step rfl rfl (Yd.lenS rfl rfl) (Seg.step rfl rfl (Yd.gtr rfl rfl) (Seg.nil (At.then_ ?_))))
    refine Cd.condk rfl (fun h34 => ?_) (fun h34 => ?_)
    · exfalso; omega
    refine Cd.skip (At.then_ (Cd.seq (Cd.seq (Cd.region (Seg.step rfl rfl (Yd.loadN rfl rfl rfl hB3.row) ?_)))))
    (refine Seg.call rfl rfl (own_of rfl) rfl (glists_any (⟨h, .slice ao qs.length c, qs, va, an, vu, au, ve, ex⟩ : Mg) _ (MgAt.ext kM hE0)) ?_; rintro _ w42 ⟨rfl, hE42⟩)
    replace hE12 := Ext.trans hE12 hE42
    replace hE3 := Ext.trans hE3 hE42
    replace hB3 := hB3.ext hE42
    replace hE0 := Ext.trans hE0 hE42
    refine Seg.step rfl rfl (Yd.move rfl) (Seg.nil (At.then_ (Cd.block ?_)))
    have hB0 : Keep (Bx w42 b3 ((⟨h, .slice ao qs.length c, qs, va, an, vu, au, ve, ex⟩ : Mg)).cells) := hB3
    have kE0 : Keep (Ext w w42) := hE0
    have hlsf := hf.2.2
    have hls : ∀ i, i < 3 → ∃ x, ((⟨h, .slice ao qs.length c, qs, va, an, vu, au, ve, ex⟩ : Mg)).ls[i]? = some x := fun i hi => ⟨_, List.getElem?_eq_getElem (by rw [ls_len]; exact hi)⟩
    clear hE0 hB3
    refine Cd.loop (σ := Nat) (fun t => [(1, .pointer (some ⟨b3, 0, none⟩)), (25, .agg #[va, vu, ve]), (26, .int .i64 (t : Int))]) (fun t w' => t ≤ 3 ∧ Ext w42 w') (fun t => 3 - t) 0 (.cons rfl (.cons rfl (.cons rfl (.nil _)))) ⟨by omega, Ext.refl w42⟩ ?_
    rintro i w1 ⟨hi, hE1⟩
    by_cases hlt : i < 3
    · obtain ⟨x, hx⟩ := hls i hlt
      obtain ⟨lo, lc, _, _, _, _, hv⟩ := ls_slice kM hx
      have hxl := (hlsf x (List.mem_of_getElem? hx)).1
      refine Cd.seq (Cd.region (Seg.step rfl rfl (Yd.lss rfl rfl) (Seg.nil (At.then_ (Cd.seq ?_)))))
      refine Cd.condk rfl (fun h49 => ?_) (fun h49 => ?_)
      · refine Cd.skip (At.then_ (Cd.seq (Cd.block (Cd.seq (Cd.region ?_)))))
        (refine Seg.step rfl rfl (Yd.indexV rfl rfl rfl rfl (NatOf.cast _) hlt hv) ?_)
        refine Seg.step rfl rfl (Yd.assign rfl) (Seg.nil (At.then_ (Cd.seq (Cd.region (Seg.step rfl rfl (Yd.move rfl) (Seg.step rfl rfl (Yd.lenS rfl rfl) (Seg.step rfl rfl (Yd.gtr rfl rfl) ?_)))))))
        refine Seg.nil (At.then_ ?_)
        refine Cd.condk rfl (fun h68 => ?_) (fun h68 => ?_)
        · exfalso; omega
        · refine Cd.skip (At.blk (At.then_ (Cd.region (Seg.step rfl rfl (Yd.addI rfl rfl (by omega)) (Seg.step rfl rfl (Yd.move rfl) (Seg.nil ?_))))))
          exact At.round (i + 1) (.cons rfl (.cons rfl (.cons rfl (.nil _)))) ⟨hlt, hE1⟩ (by show 3 - (i + 1) < 3 - i; omega)
      · exfalso; omega
    · have hB1 := Bx.ext hB0 hE1
      refine Cd.seq (Cd.region (Seg.step rfl rfl (Yd.lss rfl rfl) (Seg.nil (At.then_ (Cd.seq ?_)))))
      refine Cd.condk rfl (fun h49 => ?_) (fun h49 => ?_)
      · exfalso; omega
      refine Cd.exit (At.then_exit (At.then_exit (At.blk_same (At.then_ (Cd.seq (Cd.seq (Cd.region ?_)))))))
      refine Seg.step rfl rfl (Yd.fieldAddr rfl rfl) (Seg.step rfl rfl (Yd.load1 rfl rfl (hB1.row _ _ rfl)) (Seg.step rfl rfl (Yd.lenS rfl rfl) (Seg.step rfl rfl (Yd.move rfl) (Seg.nil (At.then_ (Cd.block (Cd.loop (σ := Nat) (fun t => [(1, .pointer (some ⟨b3, 0, none⟩)), (34, .slice ao qs.length c), (35, .int .i64 (qs.length : Int)), (36, .int .i64 (t : Int))]) (fun t w' => (t ≤ qs.length ∧ ∀ q ∈ qs.take t, chkN q.n = 0 ∧ in16 q.kind ∧ in16 q.cls) ∧ Ext w42 w') (fun t => qs.length - t) 0 (.cons rfl (.cons rfl (.cons rfl (.cons rfl (.nil _))))) ⟨⟨Nat.zero_le _, fun q hq => by cases hq⟩, hE1⟩ ?_)))))))
      clear hE1 hB1
      rintro j w2 ⟨⟨hj, hT⟩, hE1⟩
      by_cases hjt : j < qs.length
      · obtain ⟨a, rfl⟩ : ∃ a, ao = some a := by
          cases ao with
          | none => have := hz0 rfl; omega
          | some a => exact ⟨a, rfl⟩
        have hr0 := hr0 a rfl
        obtain ⟨q, hqj⟩ : ∃ q, qs[j]? = some q := ⟨_, List.getElem?_eq_getElem hjt⟩
        have hqm := List.mem_of_getElem? hqj
        have hNq := hnm q hqm
        have hfq := fit_sz (hf.2.1 q hqm)
        have hsl : ∃ ao co, q.v = .slice ao q.n.length co := by obtain ⟨ao, co, e, _⟩ := hNq; exact ⟨ao, co, e⟩
        obtain ⟨qn, qv, qk, qc⟩ := q
        obtain ⟨qa, qo, hqv⟩ := hsl
        simp only at hqv hNq hfq
        subst hqv
        have hrow : Row w42 (a.add (j * 3)) [.slice qa qn.length qo, .int .i64 qk, .int .i64 qc] := by
          have h1 := (hr0.ext kE0).part (j * 3) 3
          rw [qm_row hqj] at h1; exact h1
        refine Cd.seq (Cd.region (Seg.step rfl rfl (Yd.lss rfl rfl) (Seg.nil (At.then_ (Cd.seq ?_)))))
        refine Cd.condk rfl (fun h56 => ?_) (fun h56 => ?_)
        · refine Cd.skip (At.then_ (Cd.seq (Cd.block (Cd.seq (Cd.region (Seg.step rfl rfl (Yd.indexAddr rfl rfl rfl (NatOf.cast _) (by omega)) (Seg.step rfl rfl (Yd.loadN rfl rfl rfl (hrow.ext hE1)) ?_)))))))
          refine Seg.alloc rfl rfl rfl (fun w66 b66 hE66 hB66 hb66 => ?_)
          have hlt66_0 := Nat.le_trans hE1.size hb66
          replace hE1 := Ext.trans hE1 hE66
          refine Seg.storeN rfl rfl rfl rfl hB66 rfl (by first | assumption | exact List.all_eq_true.1 rfl) (fun w67 hW67 hB67 => ?_)
          clear hB66
          replace hE66 := Ext.wr' hE66 hW67 (by omega)
          replace hE1 := Ext.wr' hE1 hW67 (by omega)
          refine Seg.nil (At.then_ (Cd.seq (Cd.seq (Cd.region (Seg.step rfl rfl (Yd.fieldAddr rfl rfl) (Seg.step rfl rfl (Yd.load1 rfl rfl (hB67.row _ _ rfl)) ?_))))))
          (refine Seg.call rfl rfl (own_of rfl) rfl (dcheck_any qn _ _ (Sl.ext hNq (Ext.trans kE0 hE1)) (by omega)) ?_; rintro _ w75 ⟨rfl, hE75⟩)
          replace hW67 := Wr.trans hW67 (Ext.wr hE75 _)
          replace hB67 := hB67.ext hE75
          replace hE66 := Ext.trans hE66 hE75
          replace hE1 := Ext.trans hE1 hE75
          refine Seg.step rfl rfl (Yd.assign rfl) (Seg.nil (At.then_ (Cd.seq (Cd.region (Seg.step rfl rfl (Yd.move rfl) (Seg.step rfl rfl (Yd.neq rfl rfl) (Seg.nil ?_)))))))
          refine At.then_ ?_
          refine Cd.condk rfl (fun h85 => ?_) (fun h85 => ?_)
          · refine Cd.seq (Cd.region (Seg.step rfl rfl (Yd.move rfl) (Seg.step rfl rfl (Yd.assign rfl) (Seg.nil (At.then_ (Cd.ret (At.then_ret ?_)))))))
            refine At.blk_ret (At.then_ret (At.then_ret (At.blk_ret (At.then_ret ?_))))
            exact At.ret Tryz.results15 (.tmp rfl .nil) ⟨⟨_, rfl, fun h => absurd h (by first | assumption | decide)⟩, Ext.trans kE0 hE1⟩
          · refine Cd.skip (At.then_ (Cd.seq (Cd.region (Seg.step rfl rfl (Yd.fieldAddr rfl rfl) (Seg.step rfl rfl (Yd.load1 rfl rfl (hB67.row _ _ rfl)) ?_)))))
            (refine Seg.call rfl rfl (own_of rfl) rfl (mwithin_any qk _) ?_; rintro _ w108 ⟨rfl, hE108⟩)
            replace hE75 := Ext.trans hE75 hE108
            replace hW67 := Wr.trans hW67 (Ext.wr hE108 _)
            replace hB67 := hB67.ext hE108
            replace hE66 := Ext.trans hE66 hE108
            replace hE1 := Ext.trans hE1 hE108
            refine Seg.step rfl rfl (Yd.notp rfl) (Seg.step rfl rfl (Yd.move rfl) ?_)
            refine Seg.gsplitp rfl rfl (fun h111 => ?_) (fun h111 => ?_)
            · refine Seg.skip rfl rfl (Seg.skip rfl rfl (Seg.skip rfl rfl (Seg.skip rfl rfl (Seg.step rfl rfl (Yd.pickT rfl rfl) (Seg.nil (At.then_ (Cd.condT rfl ?_)))))))
              refine Cd.seq (Cd.region (Seg.step rfl rfl (Yd.assign rfl) (Seg.nil (At.then_ (Cd.ret (At.blk_ret (At.then_ret ?_)))))))
              refine At.then_ret (At.blk_ret (At.then_ret ?_))
              exact At.ret Tryz.results15 (.tmp rfl .nil) ⟨⟨_, rfl, fun h => absurd h (by first | assumption | decide)⟩, Ext.trans kE0 hE1⟩
            · refine Seg.step rfl rfl (Yd.fieldAddr rfl rfl) (Seg.step rfl rfl (Yd.load1 rfl rfl (hB67.row _ _ rfl)) ?_)
              (refine Seg.call rfl rfl (own_of rfl) rfl (mwithin_any qc _) ?_; rintro _ w136 ⟨rfl, hE136⟩)
              replace hE108 := Ext.trans hE108 hE136
              replace hE75 := Ext.trans hE75 hE136
              replace hW67 := Wr.trans hW67 (Ext.wr hE136 _)
              replace hB67 := hB67.ext hE136
              replace hE66 := Ext.trans hE66 hE136
              replace hE1 := Ext.trans hE1 hE136
              refine Seg.step rfl rfl (Yd.notp rfl) (Seg.step rfl rfl (Yd.pickF rfl rfl) (Seg.nil (At.then_ ?_)))
              refine Cd.condk rfl (fun h141 => ?_) (fun h141 => ?_)
              · refine Cd.seq (Cd.region (Seg.step rfl rfl (Yd.assign rfl) (Seg.nil (At.then_ (Cd.ret (At.blk_ret (At.then_ret ?_)))))))
                refine At.then_ret (At.blk_ret (At.then_ret ?_))
                exact At.ret Tryz.results15 (.tmp rfl .nil) ⟨⟨_, rfl, fun h => absurd h (by first | assumption | decide)⟩, Ext.trans kE0 hE1⟩
              · refine Cd.skip (At.blk (At.then_ (Cd.region (Seg.step rfl rfl (Yd.addI rfl rfl (by omega)) (Seg.step rfl rfl (Yd.move rfl) (Seg.nil ?_))))))
                exact At.round (j + 1) (.cons rfl (.cons rfl (.cons rfl (.cons rfl (.nil _))))) ⟨⟨hjt, in_take hqj hT ⟨Classical.not_not.1 (by assumption), Classical.not_not.1 (show ¬¬ in16 qk by assumption), Classical.not_not.1 (show ¬¬ in16 qc by assumption)⟩⟩, hE1⟩ (Nat.sub_lt_sub_left hjt (Nat.lt_succ_self j))
        · exfalso; omega
      · obtain rfl : j = qs.length := by omega
        rw [List.take_length] at hT
        have hB1 := Bx.ext hB0 hE1
        refine Cd.seq (Cd.region (Seg.step rfl rfl (Yd.lss rfl rfl) (Seg.nil (At.then_ (Cd.seq ?_)))))
        refine Cd.condk rfl (fun h56 => ?_) (fun h56 => ?_)
        · exfalso; omega
        refine Cd.exit (At.then_exit (At.then_exit (At.blk_same (At.then_ (Cd.seq (Cd.seq (Cd.region ?_)))))))
        refine Seg.step rfl rfl (Yd.loadN rfl rfl rfl hB1.row) ?_
        (refine Seg.call rfl rfl (own_of rfl) rfl (glists_any (⟨h, .slice ao qs.length c, qs, va, an, vu, au, ve, ex⟩ : Mg) _ (MgAt.ext kM (Ext.trans kE0 hE1))) ?_; rintro _ w67 ⟨rfl, hE67⟩)
        replace hE1 := Ext.trans hE1 hE67
        replace hB1 := hB1.ext hE67
        refine Seg.step rfl rfl (Yd.move rfl) (Seg.nil (At.then_ (Cd.block (Cd.loop (σ := Nat) (fun t => [(58, .agg #[va, vu, ve]), (59, .int .i64 (t : Int))]) (fun t w' => (t ≤ 3 ∧ ∀ x ∈ ((⟨h, .slice ao qs.length c, qs, va, an, vu, au, ve, ex⟩ : Mg)).ls.take t, ∀ r ∈ x.2, RecOk r) ∧ Ext w42 w') (fun t => 3 - t) 0 (.cons rfl (.cons rfl (.nil _))) ⟨⟨by omega, fun x hx => by cases hx⟩, by assumption⟩ ?_))))
        clear hE1 hB1
        rintro i w3 ⟨⟨hi, hU⟩, hE1⟩
        by_cases hlt : i < 3
        · obtain ⟨x, hx⟩ := hls i hlt
          obtain ⟨lo, lc, _, hrr, hrz, hra, hv⟩ := ls_slice kM hx
          have hxl := (hlsf x (List.mem_of_getElem? hx)).1
          have hxf := (hlsf x (List.mem_of_getElem? hx)).2
          refine Cd.seq (Cd.region (Seg.step rfl rfl (Yd.lss rfl rfl) (Seg.nil (At.then_ (Cd.seq ?_)))))
          refine Cd.condk rfl (fun h74 => ?_) (fun h74 => ?_)
          rotate_left 1
          · exfalso; omega
          rotate_right 1
          refine Cd.skip (At.then_ (Cd.seq (Cd.block (Cd.seq (Cd.region ?_)))))
          (refine Seg.step rfl rfl (Yd.indexV rfl rfl rfl rfl (NatOf.cast _) hlt hv) ?_)
          refine Seg.step rfl rfl (Yd.assign rfl) (Seg.nil (At.then_ (Cd.seq (Cd.region (Seg.step rfl rfl (Yd.move rfl) (Seg.step rfl rfl (Yd.lenS rfl rfl) (Seg.step rfl rfl (Yd.move rfl) ?_)))))))
          refine Seg.nil (At.then_ (Cd.block (Cd.loop (σ := Nat) (fun t => [(58, .agg #[va, vu, ve]), (59, .int .i64 (i : Int)), (62, .slice lo x.2.length lc), (63, .int .i64 (x.2.length : Int)), (64, .int .i64 (t : Int))]) (fun t w' => (t ≤ x.2.length ∧ ∀ r ∈ x.2.take t, RecOk r) ∧ Ext w42 w') (fun t => x.2.length - t) 0 (.cons rfl (.cons rfl (.cons rfl (.cons rfl (.cons rfl (.nil _)))))) ⟨⟨Nat.zero_le _, fun r hr => by cases hr⟩, by assumption⟩ ?_)))
          clear hE1
          rintro k w4 ⟨⟨hk, hV⟩, hE1⟩
          by_cases hkt : k < x.2.length
          · obtain ⟨a, rfl⟩ : ∃ a, lo = some a := by
              cases lo with
              | none => have := hrz rfl; omega
              | some a => exact ⟨a, rfl⟩
            obtain ⟨r, hrk⟩ : ∃ r, x.2[k]? = some r := ⟨_, List.getElem?_eq_getElem hkt⟩
            have hrm := List.mem_of_getElem? hrk
            have hrow := recs_part (hrr a rfl) hrk
            have hone := rec_one (hra r hrm)
            refine Cd.seq (Cd.region (Seg.step rfl rfl (Yd.lss rfl rfl) (Seg.nil (At.then_ (Cd.seq ?_)))))
            refine Cd.condk rfl (fun h81 => ?_) (fun h81 => ?_)
            · refine Cd.skip (At.then_ (Cd.seq (Cd.block (Cd.seq (Cd.region (Seg.step rfl rfl (Yd.indexAddr rfl rfl rfl (NatOf.cast _) (by omega)) (Seg.step rfl rfl (Yd.loadN rfl rfl rfl (hrow.ext (Ext.trans kE0 hE1))) ?_)))))))
              refine Seg.alloc rfl rfl rfl (fun w91 b91 hE91 hB91 hb91 => ?_)
              have hlt91_0 := Nat.le_trans hE1.size hb91
              replace hE1 := Ext.trans hE1 hE91
              refine Seg.storeN rfl rfl rfl rfl hB91 rfl (by first | assumption | exact List.all_eq_true.1 rfl) (fun w92 hW92 hB92 => ?_)
              clear hB91
              replace hE91 := Ext.wr' hE91 hW92 (by omega)
              replace hE1 := Ext.wr' hE1 hW92 (by omega)
              refine Seg.nil (At.then_ (Cd.seq (Cd.region (Seg.step rfl rfl (Yd.loadN rfl rfl rfl hB92.row) ?_))))
              (refine Seg.call rfl rfl (own_of rfl) rfl (rcheck_any r _ (RecAt.ext (hra r hrm) (Ext.trans kE0 hE1)) (hxf r hrm).2 (hxf r hrm).1) ?_; rintro _ w98 ⟨⟨e3, rfl, hok3⟩, hE98⟩)
              replace hW92 := Wr.trans hW92 (Ext.wr hE98 _)
              replace hB92 := hB92.ext hE98
              replace hE91 := Ext.trans hE91 hE98
              replace hE1 := Ext.trans hE1 hE98
              refine Seg.step rfl rfl (Yd.assign rfl) (Seg.nil (At.then_ (Cd.seq (Cd.region (Seg.step rfl rfl (Yd.move rfl) (Seg.step rfl rfl (Yd.neq rfl rfl) (Seg.nil ?_)))))))
              refine At.then_ ?_
              refine Cd.condk rfl (fun h108 => ?_) (fun h108 => ?_)
              · refine Cd.seq (Cd.region (Seg.step rfl rfl (Yd.move rfl) (Seg.step rfl rfl (Yd.assign rfl) (Seg.nil (At.then_ (Cd.ret (At.blk_ret ?_)))))))
                refine At.then_ret (At.then_ret (At.blk_ret (At.blk_ret (At.then_ret (At.then_ret (At.blk_ret (At.then_ret ?_)))))))
                exact At.ret Tryz.results15 (.tmp rfl .nil) ⟨⟨_, rfl, fun h => absurd h (by first | assumption | decide)⟩, Ext.trans kE0 hE1⟩
              · refine Cd.skip (At.blk (At.then_ (Cd.region (Seg.step rfl rfl (Yd.addI rfl rfl (by omega)) (Seg.step rfl rfl (Yd.move rfl) (Seg.nil ?_))))))
                exact At.round (k + 1) (.cons rfl (.cons rfl (.cons rfl (.cons rfl (.cons rfl (.nil _)))))) ⟨⟨hkt, in_take hrk hV (hok3 (Classical.not_not.1 (by assumption)))⟩, hE1⟩ (Nat.sub_lt_sub_left hkt (Nat.lt_succ_self k))
            · exfalso; omega
          · obtain rfl : k = x.2.length := by omega
            rw [List.take_length] at hV
            refine Cd.seq (Cd.region (Seg.step rfl rfl (Yd.lss rfl rfl) (Seg.nil (At.then_ (Cd.seq ?_)))))
            refine Cd.condk rfl (fun h81 => ?_) (fun h81 => ?_)
            · exfalso; omega
            · refine Cd.exit (At.then_exit (At.then_exit (At.blk_same (At.blk (At.then_ (Cd.region (Seg.step rfl rfl (Yd.addI rfl rfl (by omega)) ?_)))))))
              refine Seg.step rfl rfl (Yd.move rfl) (Seg.nil ?_)
              exact At.round (i + 1) (.cons rfl (.cons rfl (.nil _))) ⟨⟨hlt, in_take hx hU hV⟩, hE1⟩ (by show 3 - (i + 1) < 3 - i; omega)
        · obtain rfl : i = 3 := by omega
          refine Cd.seq (Cd.region (Seg.step rfl rfl (Yd.lss rfl rfl) (Seg.nil (At.then_ (Cd.seq (Cd.condF rfl (Cd.exit ?_)))))))
          refine At.then_exit (At.then_exit (At.blk_same (At.then_ (Cd.seq (Cd.region (Seg.step rfl rfl (Yd.assign rfl) (Seg.nil ?_)))))))
          refine At.then_ (Cd.ret ?_)
          exact At.ret Tryz.results15 (.tmp rfl .nil) ⟨⟨_, rfl, fun _ => ⟨hh, hT, hU⟩⟩, Ext.trans kE0 hE1⟩
  · refine Cd.seq (Cd.region (Seg.box rfl rfl rfl (fun w3 b3 hE3 hB3 hb3 => ?_)))
    have hlt3_0 := Nat.le_trans hE0.size hb3
    replace hE0 := Ext.trans hE0 hE3
    refine Seg.step rfl rfl (Yd.assign rfl) (Seg.nil (At.then_ (Cd.seq (Cd.seq (Cd.region (Seg.step rfl rfl (Yd.fieldAddr rfl rfl) (Seg.step rfl rfl (Yd.loadN rfl rfl rfl (show Row _ (Addr.add _ 0) h.cells from hB3.row.part 0 10)) ?_)))))))
    (refine Seg.call rfl rfl (own_of rfl) rfl (hcheck_any h _) ?_; rw [if_neg hh]; rintro _ w12 ⟨rfl, hE12⟩)
    replace hE3 := Ext.trans hE3 hE12
    replace hB3 := hB3.ext hE12
    replace hE0 := Ext.trans hE0 hE12
    refine Seg.step rfl rfl (Yd.assign rfl) (Seg.nil (At.then_ (Cd.seq (Cd.region (Seg.step rfl rfl (Yd.move rfl) (Seg.step rfl rfl (Yd.neq rfl rfl) (Seg.nil ?_)))))))
    refine At.then_ (Cd.condT rfl (Cd.seq (Cd.region (Seg.step rfl rfl (Yd.move rfl) (Seg.step rfl rfl (Yd.assign rfl) (Seg.nil (At.then_ ?_)))))))
    refine Cd.ret (At.then_ret ?_)
    exact At.ret Tryz.results15 (.tmp rfl .nil) ⟨⟨_, rfl, fun h => absurd h (by decide)⟩, hE0⟩
end Go.Proofs.YtahpiaaffeiadaaGreat
