/- Messages of questions alone: Check, lists, Encode. -/
import Derived.Test.YtahpiaaffeiadaaGreatEom
namespace Go.Proofs.YtahpiaaffeiadaaGreat
open Go Go.RowKit
theorem mwithin_any (n : Int) (w : World) : Ret Tryz.prog 43 #[.int .i64 n] w fun v w' => v = .bool (decide (0 ≤ n ∧ n ≤ 65535)) ∧ Ext w w' := by
  have hE0 := Ext.refl w
  refine Ret.body Tryz.func43 rfl Tryz.ntmps43 rfl ?_
  by_cases h1 : 0 ≤ n
  · have hm : Value.bool (decide (n ≤ 65535)) = .bool (decide (0 ≤ n ∧ n ≤ 65535)) := by congr 1; rw [decide_eq_decide]; omega
    refine Cd.seq (Cd.region (Seg.step rfl rfl (Yd.assign rfl) (Seg.nil (At.then_ (Cd.seq (Cd.region (Seg.step rfl rfl (Yd.move rfl) ?_)))))))
    refine Seg.step rfl rfl (Yd.leq rfl rfl) (Seg.step rfl rfl (Yd.move rfl) ?_)
    refine Seg.gsplitp rfl rfl (fun h12 => ?_) (fun h12 => ?_)
    · refine Seg.step rfl rfl (Yd.move rfl) (Seg.step rfl rfl (Yd.leq rfl rfl) (Seg.step rfl rfl (Yd.pickT rfl rfl) (Seg.step rfl rfl (Yd.assign rfl) (Seg.nil (At.then_ (Cd.ret ?_))))))
      exact At.ret Tryz.results43 (.tmp rfl .nil) ⟨hm, hE0⟩
    · exfalso; omega
  · have hm : Value.bool false = .bool (decide (0 ≤ n ∧ n ≤ 65535)) := by congr 1; rw [eq_comm, decide_eq_false_iff_not]; omega
    refine Cd.seq (Cd.region (Seg.step rfl rfl (Yd.assign rfl) (Seg.nil (At.then_ (Cd.seq (Cd.region (Seg.step rfl rfl (Yd.move rfl) ?_)))))))
    refine Seg.step rfl rfl (Yd.leq rfl rfl) (Seg.step rfl rfl (Yd.move rfl) ?_)
    refine Seg.gsplitp rfl rfl (fun h12 => ?_) (fun h12 => ?_)
    · exfalso; omega
    · refine Seg.skip rfl rfl (Seg.skip rfl rfl (Seg.step rfl rfl (Yd.pickF rfl rfl) (Seg.step rfl rfl (Yd.assign rfl) (Seg.nil (At.then_ (Cd.ret ?_))))))
      exact At.ret Tryz.results43 (.tmp rfl .nil) ⟨hm, hE0⟩
def nil3 : Value := .slice none 0 0
/-- A message of questions alone. -/
def mesV (h : Hd) (vq : Value) : List Value := h.cells ++ [vq, .slice none 0 0, .slice none 0 0, .slice none 0 0]
theorem mlists_any (h : Hd) (ao : Option Addr) (l c : Nat) (w : World) : Ret Tryz.prog 20 #[.agg (mesV h (.slice ao l c)).toArray] w fun v w' => v = .agg #[.slice none 0 0, .slice none 0 0, .slice none 0 0] ∧ Ext w w' := by
  have hE0 := Ext.refl w
  refine Ret.body Tryz.func20 rfl Tryz.ntmps20 rfl (Cd.seq (Cd.region (Seg.box rfl rfl rfl (fun w3 b3 hE3 hB3 hb3 => ?_))))
  have hlt3_0 := Nat.le_trans hE0.size hb3
  replace hE0 := Ext.trans hE0 hE3
  refine Seg.alloc rfl rfl rfl (fun w4 b4 hE4 hB4 hb4 => ?_)
  have hlt4_0 := Nat.le_trans hE3.size hb4
  have hlt4_1 := Nat.lt_of_lt_of_le hB3.lt hb4
  have hlt4_2 := Nat.le_trans hE0.size hb4
  replace hE3 := Ext.trans hE3 hE4
  replace hB3 := hB3.ext hE4
  replace hE0 := Ext.trans hE0 hE4
  refine Seg.nil (At.then_ (Cd.seq (Cd.region (Seg.step rfl rfl (Yd.fieldAddr rfl rfl) (Seg.step rfl rfl (Yd.load1 rfl rfl (hB3.row _ _ rfl)) (Seg.step rfl rfl (Yd.fieldAddr rfl rfl) (Seg.step rfl rfl (Yd.load1 rfl rfl (hB3.row _ _ rfl)) ?_)))))))
  refine Seg.step rfl rfl (Yd.fieldAddr rfl rfl) (Seg.step rfl rfl (Yd.load1 rfl rfl (hB3.row _ _ rfl)) (Seg.step rfl rfl (Yd.buildArrT (cs := _ :: _ :: _ :: []) 3 rfl rfl rfl rfl rfl) (Seg.storeN rfl rfl rfl rfl hB4 rfl (by first | assumption | exact List.all_eq_true.1 rfl) (fun w16 hW16 hB16 => ?_))))
  clear hB4
  replace hE4 := Ext.wr' hE4 hW16 (by omega)
  replace hE3 := Ext.wr' hE3 hW16 (by omega)
  replace hB3 := hB3.wr hW16 (by omega)
  replace hE0 := Ext.wr' hE0 hW16 (by omega)
  refine Seg.nil (At.then_ (Cd.ret ?_))
  exact At.ret Tryz.results20 (.cell rfl (run_loadVarN rfl rfl (Bx.row (by assumption))) .nil) ⟨rfl, by assumption⟩
/-- A question: its name, the name's value, and two numbers. -/
structure Qn where
  n : List (List UInt8)
  v : Value
  kind : Nat
  cls : Nat
def Qn.cells (q : Qn) : List Value := [q.v, .int .i64 (q.kind : Int), .int .i64 (q.cls : Int)]
def QnOk (q : Qn) : Prop := labN q.n ∧ szN q.n ≤ 255 ∧ q.kind < 65536 ∧ q.cls < 65536
/-- vq holds these questions. -/
def QsAt (w : World) (vq : Value) (qs : List Qn) : Prop := Sl w 3 vq qs.length (qs.flatMap Qn.cells) ∧ ∀ q ∈ qs, NameAt w q.v q.n
theorem QsAt.ext {w w' : World} {vq : Value} {qs : List Qn} (h : QsAt w vq qs) (hE : Ext w w') : QsAt w' vq qs := ⟨h.1.ext hE, fun q hq => Sl.ext (h.2 q hq) hE⟩
theorem qs_row {qs : List Qn} {i : Nat} {q : Qn} (h : qs[i]? = some q) : ((qs.flatMap Qn.cells).drop (i * 3)).take 3 = q.cells := by
  induction qs generalizing i with
  | nil => cases h
  | cons a qs ih =>
    cases i with
    | zero => cases h; rfl
    | succ i =>
      have := ih (i := i) (by simpa using h)
      rw [List.flatMap_cons, show (i + 1) * 3 = a.cells.length + i * 3 by show _ = 3 + i * 3; omega, ← List.drop_drop, List.drop_left]
      exact this
theorem qs_chk {q : Qn} (h : QnOk q) : chkN q.n = 0 := by unfold chkN; rw [if_pos h.1, if_pos h.2.1]
theorem mcheck_any (h : Hd) (vq : Value) (qs : List Qn) (w : World) (hok : HdOk h) (hq : QsAt w vq qs) (hl : qs.length ≤ 65535) (hqs : ∀ q ∈ qs, QnOk q) : Ret Tryz.prog 15 #[.agg (mesV h vq).toArray] w fun v w' => v = .int .i64 0 ∧ Ext w w' := by
  have hE0 := Ext.refl w
  have hQ := hq
  obtain ⟨⟨ao, c, rfl, hl0, hr0, hz0⟩, hnm⟩ := hq
  refine Ret.body Tryz.func15 rfl Tryz.ntmps15 rfl (Cd.seq (Cd.region (Seg.box rfl rfl rfl (fun w3 b3 hE3 hB3 hb3 => ?_))))
  have hlt3_0 := Nat.le_trans hE0.size hb3
  replace hE0 := Ext.trans hE0 hE3
  replace hQ := hQ.ext hE3
  refine Seg.step rfl rfl (Yd.assign rfl) (Seg.nil (At.then_ (Cd.seq (Cd.seq (Cd.region (Seg.step rfl rfl (Yd.fieldAddr rfl rfl) (Seg.step rfl rfl (Yd.loadN rfl rfl rfl (show Row _ (Addr.add _ 0) h.cells from hB3.row.part 0 10)) ?_)))))))
  (refine Seg.call rfl rfl (own_of rfl) rfl (hcheck_any h _) ?_; rw [if_pos hok]; rintro _ w12 ⟨rfl, hE12⟩)
  replace hE3 := Ext.trans hE3 hE12
  replace hB3 := hB3.ext hE12
  replace hE0 := Ext.trans hE0 hE12
  replace hQ := hQ.ext hE12
  refine Seg.step rfl rfl (Yd.assign rfl) (Seg.nil (At.then_ (Cd.seq (Cd.region (Seg.step rfl rfl (Yd.move rfl) (Seg.step rfl rfl (Yd.neq rfl rfl) (Seg.nil ?_)))))))
  refine At.then_ (Cd.condF rfl (Cd.skip (At.then_ (Cd.seq (Cd.seq (Cd.region (Seg.step rfl rfl (Yd.fieldAddr rfl rfl) ?_)))))))
  refine Seg.step rfl rfl (Yd.load1 rfl rfl (hB3.row _ _ rfl)) (Seg.step rfl rfl (Yd.lenS rfl rfl) (Seg.step rfl rfl (Yd.gtr rfl rfl) (Seg.nil (At.then_ ?_))))
  refine Cd.condk rfl (fun h34 => ?_) (fun h34 => ?_)
  · exfalso; omega
  refine Cd.skip (At.then_ (Cd.seq (Cd.seq (Cd.region (Seg.step rfl rfl (Yd.loadN rfl rfl rfl hB3.row) ?_)))))
  (refine Seg.call rfl rfl (own_of rfl) rfl (mlists_any h ao _ c _) ?_; rintro _ w42 ⟨rfl, hE42⟩)
  replace hE12 := Ext.trans hE12 hE42
  replace hE3 := Ext.trans hE3 hE42
  replace hB3 := hB3.ext hE42
  replace hE0 := Ext.trans hE0 hE42
  replace hQ := hQ.ext hE42
  refine Seg.step rfl rfl (Yd.move rfl) (Seg.nil (At.then_ (Cd.block (Cd.loop (σ := Nat) (fun t => [(1, .pointer (some ⟨b3, 0, none⟩)), (25, .agg #[.slice none 0 0, .slice none 0 0, .slice none 0 0]), (26, .int .i64 (t : Int))]) (fun t w' => t ≤ 3 ∧ Ext w42 w') (fun t => 3 - t) 0 (.cons rfl (.cons rfl (.cons rfl (.nil _)))) ⟨by omega, Ext.refl w42⟩ ?_))))
  have hEw : Keep (Ext w w42) := hE0
  have hB42 : Keep (Bx w42 b3 (mesV h (.slice ao qs.length c))) := hB3
  clear hE0 hB3
  rintro i w1 ⟨hi, hE1⟩
  by_cases hlt : i < 3
  · have hv : [Value.slice none 0 0, .slice none 0 0, .slice none 0 0][i]? = some (.slice none 0 0) := by
      rcases i with _ | _ | _ | i
      · rfl
      · rfl
      · rfl
      · omega
    refine Cd.seq (Cd.region (Seg.step rfl rfl (Yd.lss rfl rfl) (Seg.nil (At.then_ (Cd.seq ?_)))))
    refine Cd.condk rfl (fun h49 => ?_) (fun h49 => ?_)
    · refine Cd.skip (At.then_ (Cd.seq (Cd.block (Cd.seq (Cd.region ?_)))))
      (refine Seg.step rfl rfl (Yd.indexV rfl rfl rfl rfl (NatOf.cast _) hlt hv) ?_)
      refine Seg.step rfl rfl (Yd.assign rfl) (Seg.nil (At.then_ (Cd.seq (Cd.region (Seg.step rfl rfl (Yd.move rfl) (Seg.step rfl rfl (Yd.lenS rfl rfl) (Seg.step rfl rfl (Yd.gtr rfl rfl) ?_)))))))
      refine Seg.nil (At.then_ (Cd.condF rfl (Cd.skip (At.blk (At.then_ (Cd.region (Seg.step rfl rfl (Yd.addI rfl rfl (by omega)) ?_)))))))
      refine Seg.step rfl rfl (Yd.move rfl) (Seg.nil ?_)
      exact At.round (i + 1) (.cons rfl (.cons rfl (.cons rfl (.nil _)))) ⟨hlt, hE1⟩ (by show 3 - (i + 1) < 3 - i; omega)
    · exfalso; omega
  · have hB1 := Bx.ext hB42 hE1
    refine Cd.seq (Cd.region (Seg.step rfl rfl (Yd.lss rfl rfl) (Seg.nil (At.then_ (Cd.seq ?_)))))
    refine Cd.condk rfl (fun h49 => ?_) (fun h49 => ?_)
    · exfalso; omega
    refine Cd.exit (At.then_exit (At.then_exit (At.blk_same (At.then_ (Cd.seq (Cd.seq (Cd.region ?_)))))))
    refine Seg.step rfl rfl (Yd.fieldAddr rfl rfl) (Seg.step rfl rfl (Yd.load1 rfl rfl (hB1.row _ _ rfl)) (Seg.step rfl rfl (Yd.lenS rfl rfl) (Seg.step rfl rfl (Yd.move rfl) (Seg.nil (At.then_ (Cd.block (Cd.loop (σ := Nat) (fun t => [(1, .pointer (some ⟨b3, 0, none⟩)), (34, .slice ao qs.length c), (35, .int .i64 (qs.length : Int)), (36, .int .i64 (t : Int))]) (fun t w' => t ≤ qs.length ∧ Ext w42 w') (fun t => qs.length - t) 0 (.cons rfl (.cons rfl (.cons rfl (.cons rfl (.nil _))))) ⟨Nat.zero_le _, hE1⟩ ?_)))))))
    clear hE1 hB1
    rintro j w2 ⟨hj, hE1⟩
    by_cases hjt : j < qs.length
    · obtain ⟨a, rfl⟩ : ∃ a, ao = some a := by
        cases ao with
        | none => have := hz0 rfl; omega
        | some a => exact ⟨a, rfl⟩
      have hr0 := hr0 a rfl
      obtain ⟨q, hqj⟩ : ∃ q, qs[j]? = some q := ⟨_, List.getElem?_eq_getElem hjt⟩
      have hqm := List.mem_of_getElem? hqj
      obtain ⟨g1, g2, g3, g4⟩ := hqs q hqm
      have hck := qs_chk (hqs q hqm)
      have hNq := hnm q hqm
      have hsl : ∃ ao co, q.v = .slice ao q.n.length co := by obtain ⟨ao, co, e, _⟩ := hNq; exact ⟨ao, co, e⟩
      obtain ⟨qn, qv, qk, qc⟩ := q
      obtain ⟨qa, qo, hqv⟩ := hsl
      simp only at hqv g1 g2 g3 g4 hck hNq
      subst hqv
      have hrow : Row w42 (a.add (j * 3)) [.slice qa qn.length qo, .int .i64 (qk : Int), .int .i64 (qc : Int)] := by
        have h1 := (hr0.ext hEw).part (j * 3) 3
        rw [qs_row hqj] at h1; exact h1
      have hw1 : decide ((0 : Int) ≤ (qk : Int) ∧ (qk : Int) ≤ 65535) = true := decide_eq_true ⟨by omega, by omega⟩
      have hw2 : decide ((0 : Int) ≤ (qc : Int) ∧ (qc : Int) ≤ 65535) = true := decide_eq_true ⟨by omega, by omega⟩
      refine Cd.seq (Cd.region (Seg.step rfl rfl (Yd.lss rfl rfl) (Seg.nil (At.then_ (Cd.seq ?_)))))
      refine Cd.condk rfl (fun h56 => ?_) (fun h56 => ?_)
      · refine Cd.skip (At.then_ (Cd.seq (Cd.block (Cd.seq (Cd.region (Seg.step rfl rfl (Yd.indexAddr rfl rfl rfl (NatOf.cast _) (by omega)) (Seg.step rfl rfl (Yd.loadN rfl rfl rfl (hrow.ext hE1)) ?_)))))))
        refine Seg.alloc rfl rfl rfl (fun w66 b66 hE66 hB66 hb66 => ?_)
        have hlt66_0 := Nat.le_trans hE1.size hb66
        replace hE1 := Ext.trans hE1 hE66
        refine Seg.storeN rfl rfl rfl rfl hB66 rfl (by first | assumption | exact List.all_eq_true.1 rfl) (fun w67 hW67 hB67 => ?_)
        clear hB66
        replace hE66 := Ext.wr' hE66 hW67 (by omega)
        replace hE1 := Ext.wr' hE1 hW67 (by omega)
        refine Seg.nil (At.then_ (Cd.seq (Cd.seq (Cd.region (Seg.step rfl rfl (Yd.fieldAddr rfl rfl) (Seg.step rfl rfl (Yd.load1 rfl rfl (hB67.row _ _ rfl)) ?_))))))
        (refine Seg.call rfl rfl (own_of rfl) rfl (dcheck_any qn _ _ (Sl.ext hNq (Ext.trans hEw hE1)) (by omega)) ?_; rw [hck]; rintro _ w75 ⟨rfl, hE75⟩)
        replace hW67 := Wr.trans hW67 (Ext.wr hE75 _)
        replace hB67 := hB67.ext hE75
        replace hE66 := Ext.trans hE66 hE75
        replace hE1 := Ext.trans hE1 hE75
        refine Seg.step rfl rfl (Yd.assign rfl) (Seg.nil (At.then_ (Cd.seq (Cd.region (Seg.step rfl rfl (Yd.move rfl) (Seg.step rfl rfl (Yd.neq rfl rfl) (Seg.nil ?_)))))))
        refine At.then_ (Cd.condF rfl (Cd.skip (At.then_ (Cd.seq (Cd.region (Seg.step rfl rfl (Yd.fieldAddr rfl rfl) (Seg.step rfl rfl (Yd.load1 rfl rfl (hB67.row _ _ rfl)) ?_)))))))
        (refine Seg.call rfl rfl (own_of rfl) rfl (mwithin_any (qk : Int) _) ?_; rw [hw1]; rintro _ w92 ⟨rfl, hE92⟩)
        replace hE75 := Ext.trans hE75 hE92
        replace hW67 := Wr.trans hW67 (Ext.wr hE92 _)
        replace hB67 := hB67.ext hE92
        replace hE66 := Ext.trans hE66 hE92
        replace hE1 := Ext.trans hE1 hE92
        refine Seg.step rfl rfl (Yd.not rfl) (Seg.step rfl rfl (Yd.move rfl) (Seg.step rfl rfl (Yd.fieldAddr rfl rfl) (Seg.step rfl rfl (Yd.load1 rfl rfl (hB67.row _ _ rfl)) ?_)))
        (refine Seg.call rfl rfl (own_of rfl) rfl (mwithin_any (qc : Int) _) ?_; rw [hw2]; rintro _ w97 ⟨rfl, hE97⟩)
        replace hE92 := Ext.trans hE92 hE97
        replace hE75 := Ext.trans hE75 hE97
        replace hW67 := Wr.trans hW67 (Ext.wr hE97 _)
        replace hB67 := hB67.ext hE97
        replace hE66 := Ext.trans hE66 hE97
        replace hE1 := Ext.trans hE1 hE97
        refine Seg.step rfl rfl (Yd.not rfl) (Seg.step rfl rfl (Yd.pickF rfl rfl) (Seg.nil (At.then_ (Cd.condF rfl (Cd.skip (At.blk (At.then_ ?_)))))))
        refine Cd.region (Seg.step rfl rfl (Yd.addI rfl rfl (by omega)) (Seg.step rfl rfl (Yd.move rfl) (Seg.nil ?_)))
        exact At.round (j + 1) (.cons rfl (.cons rfl (.cons rfl (.cons rfl (.nil _))))) ⟨hjt, hE1⟩ (Nat.sub_lt_sub_left hjt (Nat.lt_succ_self j))
      · exfalso; omega
    · have hB1 := Bx.ext hB42 hE1
      refine Cd.seq (Cd.region (Seg.step rfl rfl (Yd.lss rfl rfl) (Seg.nil (At.then_ (Cd.seq ?_)))))
      refine Cd.condk rfl (fun h56 => ?_) (fun h56 => ?_)
      · exfalso; omega
      refine Cd.exit (At.then_exit (At.then_exit (At.blk_same (At.then_ (Cd.seq (Cd.seq (Cd.region ?_)))))))
      refine Seg.step rfl rfl (Yd.loadN rfl rfl rfl hB1.row) ?_
      (refine Seg.call rfl rfl (own_of rfl) rfl (mlists_any h ao _ c _) ?_; rintro _ w67 ⟨rfl, hE67⟩)
      replace hE1 := Ext.trans hE1 hE67
      replace hB1 := hB1.ext hE67
      refine Seg.step rfl rfl (Yd.move rfl) (Seg.nil (At.then_ (Cd.block (Cd.loop (σ := Nat) (fun t => [(58, .agg #[.slice none 0 0, .slice none 0 0, .slice none 0 0]), (59, .int .i64 (t : Int))]) (fun t w' => t ≤ 3 ∧ Ext w42 w') (fun t => 3 - t) 0 (.cons rfl (.cons rfl (.nil _))) ⟨by omega, by assumption⟩ ?_))))
      clear hE1 hB1
      rintro i w3 ⟨hi, hE1⟩
      by_cases hlt : i < 3
      · have hv : [Value.slice none 0 0, .slice none 0 0, .slice none 0 0][i]? = some (.slice none 0 0) := by
          rcases i with _ | _ | _ | i
          · rfl
          · rfl
          · rfl
          · omega
        refine Cd.seq (Cd.region (Seg.step rfl rfl (Yd.lss rfl rfl) (Seg.nil (At.then_ (Cd.seq ?_)))))
        refine Cd.condk rfl (fun h74 => ?_) (fun h74 => ?_)
        rotate_left 1
        · exfalso; omega
        rotate_right 1
        refine Cd.skip (At.then_ (Cd.seq (Cd.block (Cd.seq (Cd.region ?_)))))
        (refine Seg.step rfl rfl (Yd.indexV rfl rfl rfl rfl (NatOf.cast _) hlt hv) ?_)
        refine Seg.step rfl rfl (Yd.assign rfl) (Seg.nil (At.then_ (Cd.seq (Cd.region (Seg.step rfl rfl (Yd.move rfl) (Seg.step rfl rfl (Yd.lenS rfl rfl) (Seg.step rfl rfl (Yd.move rfl) ?_)))))))
        refine Seg.nil (At.then_ (Cd.block (Cd.loop (σ := Unit) (fun _ => [(58, .agg #[.slice none 0 0, .slice none 0 0, .slice none 0 0]), (59, .int .i64 (i : Int)), (63, .int .i64 0), (64, .int .i64 0)]) (fun _ w' => Ext w42 w') (fun _ => 0) () (.cons rfl (.cons rfl (.cons rfl (.cons rfl (.nil _))))) (by assumption) ?_)))
        clear hE1
        rintro _ w4 hE1
        refine Cd.seq (Cd.region (Seg.step rfl rfl (Yd.lss rfl rfl) (Seg.nil (At.then_ (Cd.seq (Cd.condF rfl (Cd.exit ?_)))))))
        refine At.then_exit (At.then_exit (At.blk_same (At.blk (At.then_ (Cd.region (Seg.step rfl rfl (Yd.addI rfl rfl (by omega)) (Seg.step rfl rfl (Yd.move rfl) ?_)))))))
        refine Seg.nil ?_
        exact At.round (i + 1) (.cons rfl (.cons rfl (.nil _))) ⟨hlt, hE1⟩ (by show 3 - (i + 1) < 3 - i; omega)
      · refine Cd.seq (Cd.region (Seg.step rfl rfl (Yd.lss rfl rfl) (Seg.nil (At.then_ (Cd.seq ?_)))))
        refine Cd.condk rfl (fun h74 => ?_) (fun h74 => ?_)
        · exfalso; omega
        · refine Cd.exit (At.then_exit (At.then_exit (At.blk_same (At.then_ (Cd.seq (Cd.region (Seg.step rfl rfl (Yd.assign rfl) ?_)))))))
          refine Seg.nil (At.then_ (Cd.ret ?_))
          exact At.ret Tryz.results15 (.tmp rfl .nil) ⟨rfl, Ext.trans hEw hE1⟩
/-- Where the table first knows the rest of a name. -/
def hitK (F : List UInt8 → Option Nat) : List (List UInt8) → Nat
  | [] => 0
  | l :: r => if (F (octN (l :: r))).isSome then 0 else hitK F r + 1
theorem hit_le (F : List UInt8 → Option Nat) : ∀ n : List (List UInt8), hitK F n ≤ n.length
  | [] => Nat.le_refl _
  | l :: r => by have := hit_le F r; unfold hitK; split <;> simp <;> omega
theorem hit_no (F : List UInt8 → Option Nat) : ∀ (n : List (List UInt8)) (j : Nat), j < hitK F n → F (octN (n.drop j)) = none
  | [], j, h => by simp [hitK] at h
  | l :: r, j, h => by
    unfold hitK at h
    split at h
    · omega
    · rename_i hn
      cases j with
      | zero => simpa using hn
      | succ j => exact hit_no F r j (by omega)
theorem hit_at (F : List UInt8 → Option Nat) : ∀ n : List (List UInt8), hitK F n < n.length → ∃ to, F (octN (n.drop (hitK F n))) = some to
  | [], h => by simp [hitK] at h
  | l :: r, h => by
    unfold hitK at h ⊢
    split at h
    · rename_i hs
      rw [if_pos hs]
      exact Option.isSome_iff_exists.1 hs
    · rename_i hs
      rw [if_neg hs]
      exact hit_at F r (by simp at h; omega)
def outK (F : List UInt8 → Option Nat) (n : List (List UInt8)) : List UInt8 :=
  if hitK F n < n.length then octN (n.take (hitK F n)) ++ beB 2 (49152 + (F (octN (n.drop (hitK F n)))).getD 0) else octN n ++ [0]
def okF (F : List UInt8 → Option Nat) : Prop := ∀ s v, F s = some v → v < 16384
theorem okF_add {F : List UInt8 → Option Nat} (h : okF F) (n : List (List UInt8)) (at' : Nat) : ∀ k, okF (addF' F n at' k)
  | 0 => h
  | k + 1 => by
    unfold addF'
    split
    · rename_i hlt
      intro s v hs
      unfold setF at hs
      split at hs
      · cases hs; exact hlt
      · exact okF_add h n at' k s v hs
    · exact okF_add h n at' k
theorem out_spec {F : List UInt8 → Option Nat} (hF : okF F) (n : List (List UInt8)) : (∃ to, hitK F n < n.length ∧ F (octN (n.drop (hitK F n))) = some to ∧ to < 16384 ∧ outK F n = octN (n.take (hitK F n)) ++ beB 2 (49152 + to)) ∨ (hitK F n = n.length ∧ outK F n = octN n ++ [0]) := by
  have hle := hit_le F n
  by_cases h : hitK F n < n.length
  · obtain ⟨to, ht⟩ := hit_at F n h
    exact .inl ⟨to, h, ht, hF _ _ ht, by unfold outK; rw [if_pos h, ht]; rfl⟩
  · exact .inr ⟨by omega, by unfold outK; rw [if_neg h]⟩
theorem out_len {F : List UInt8 → Option Nat} (n : List (List UInt8)) : (outK F n).length ≤ szN n + 2 := by
  have h1 := octN_len n
  have h2 := oct_tl n (hitK F n)
  unfold outK
  split
  · rw [List.length_append, beB_len]; omega
  · rw [List.length_append]; show _ + 1 ≤ _; omega
abbrev EncT : Type := List UInt8 × (List UInt8 → Option Nat)
def stepQ (S : EncT) (q : Qn) : EncT := (S.1 ++ outK S.2 q.n ++ beB 2 q.kind ++ beB 2 q.cls, addF' S.2 q.n S.1.length (hitK S.2 q.n))
def encT (h : Hd) (qs : List Qn) (i : Nat) : EncT := (qs.take i).foldl stepQ (hdB h [qs.length, 0, 0, 0], fun _ => none)
theorem encT_succ {h : Hd} {qs : List Qn} {i : Nat} {q : Qn} (hq : qs[i]? = some q) : encT h qs (i + 1) = stepQ (encT h qs i) q := by
  unfold encT
  rw [List.take_add_one, hq, List.foldl_append]
  rfl
theorem encT_ok (h : Hd) (qs : List Qn) (i : Nat) : okF (encT h qs i).2 := by
  unfold encT
  have : ∀ (l : List Qn) (S : EncT), okF S.2 → okF (l.foldl stepQ S).2 := by
    intro l
    induction l with
    | nil => intro S hS; exact hS
    | cons q l ih => intro S hS; exact ih _ (okF_add hS _ _ _)
  exact this _ _ (fun s v h => by cases h)
theorem encT_len (h : Hd) (qs : List Qn) : ∀ i, i ≤ qs.length → (∀ q ∈ qs, QnOk q) → 12 ≤ (encT h qs i).1.length ∧ (encT h qs i).1.length ≤ 12 + 300 * i
  | 0, _, _ => by
    have := hdB_len h [qs.length, 0, 0, 0]
    show 12 ≤ (hdB h [qs.length, 0, 0, 0]).length ∧ (hdB h [qs.length, 0, 0, 0]).length ≤ _
    rw [this]
    exact ⟨by show 12 ≤ 4 + 2 * 4; omega, by show 4 + 2 * 4 ≤ _; omega⟩
  | i + 1, hi, hq => by
    obtain ⟨q, hqi⟩ : ∃ q, qs[i]? = some q := ⟨_, List.getElem?_eq_getElem (by omega)⟩
    have ih := encT_len h qs i (by omega) hq
    have hk := (hq q (List.mem_of_getElem? hqi)).2.1
    have ho := out_len (F := (encT h qs i).2) q.n
    rw [encT_succ hqi]
    unfold stepQ
    simp only [List.length_append, beB_len]
    omega
theorem OwnM.lt {w : World} {base : Nat} {v : Value} {X : List UInt8} (h : OwnM w base v X) : ∀ r, v.ownBlock = some r → r < w.heap.size := fun r hr => by
  obtain ⟨g, cap, cur, fz, rfl, _, hg, _⟩ := h
  cases hr
  exact (Array.getElem?_eq_some_iff.1 hg).1
theorem WrAt.mono {w : World} {p base b bm m m' : Nat} {X : List UInt8} {F : List UInt8 → Option Nat} (h : WrAt w p base X b bm m F) (hm : m ≤ m') : WrAt w p base X b bm m' F := by
  obtain ⟨vo, h1, h2, ⟨h3, h4, h5⟩, h6⟩ := h
  exact ⟨vo, h1, h2, ⟨h3, h4.mono hm, h5⟩, h6⟩
theorem mencode_any (h : Hd) (vq : Value) (qs : List Qn) (w : World) (hok : HdOk h) (hq : QsAt w vq qs) (hl : qs.length ≤ 100) (hqs : ∀ q ∈ qs, QnOk q) : Ret Tryz.prog 6 #[.agg (mesV h vq).toArray, .bool true] w fun v w' => v = .tuple #[.string ⟨(encT h qs qs.length).1.toArray⟩, .int .i64 0] ∧ Ext w w' := by
  have hE0 := Ext.refl w
  have hQ := hq
  obtain ⟨⟨ao, c, rfl, hl0, hr0, hz0⟩, hnm⟩ := hq
  have hcl : ∀ n ∈ [qs.length, 0, 0, 0], n ≤ 65535 := by intro n hn; simp at hn; omega
  refine Ret.body Tryz.func6 rfl Tryz.ntmps6 rfl (Cd.seq (Cd.region (Seg.box rfl rfl rfl (fun w3 b3 hE3 hB3 hb3 => ?_))))
  have hlt3_0 := Nat.le_trans hE0.size hb3
  replace hE0 := Ext.trans hE0 hE3
  replace hQ := hQ.ext hE3
  refine Seg.step rfl rfl (Yd.assign rfl) (Seg.step rfl rfl (Yd.assign rfl) (Seg.nil (At.then_ (Cd.seq (Cd.seq (Cd.region (Seg.step rfl rfl (Yd.loadN rfl rfl rfl hB3.row) ?_)))))))
  (refine Seg.call rfl rfl (own_of rfl) rfl (mcheck_any h _ qs _ hok hQ (by omega) hqs) ?_; rintro _ w12 ⟨rfl, hE12⟩)
  replace hE3 := Ext.trans hE3 hE12
  replace hB3 := hB3.ext hE12
  replace hE0 := Ext.trans hE0 hE12
  replace hQ := hQ.ext hE12
  refine Seg.step rfl rfl (Yd.assign rfl) (Seg.nil (At.then_ (Cd.seq (Cd.region (Seg.step rfl rfl (Yd.move rfl) (Seg.step rfl rfl (Yd.neq rfl rfl) (Seg.nil ?_)))))))
  refine At.then_ (Cd.condF rfl (Cd.skip (At.then_ (Cd.seq (Cd.region (Seg.step rfl rfl (Yd.fieldAddr rfl rfl) (Seg.step rfl rfl (Yd.load1 rfl rfl (hB3.row _ _ rfl)) ?_)))))))
  refine Seg.step rfl rfl (Yd.lenS rfl rfl) (Seg.step rfl rfl (Yd.fieldAddr rfl rfl) (Seg.step rfl rfl (Yd.load1 rfl rfl (hB3.row _ _ rfl)) (Seg.step rfl rfl (Yd.lenS rfl rfl) (Seg.step rfl rfl (Yd.fieldAddr rfl rfl) (Seg.step rfl rfl (Yd.load1 rfl rfl (hB3.row _ _ rfl)) (Seg.step rfl rfl (Yd.lenS rfl rfl) (Seg.step rfl rfl (Yd.fieldAddr rfl rfl) ?_)))))))
  refine Seg.step rfl rfl (Yd.load1 rfl rfl (hB3.row _ _ rfl)) (Seg.step rfl rfl (Yd.lenS rfl rfl) (Seg.step rfl rfl (Yd.buildArrT (cs := _ :: _ :: _ :: _ :: []) 4 rfl rfl rfl rfl rfl) (Seg.alloc rfl rfl rfl (fun w40 b40 hE40 hB40 hb40 => ?_))))
  have hlt40_0 := Nat.le_trans hE12.size hb40
  have hlt40_1 := Nat.le_trans hE3.size hb40
  have hlt40_2 := Nat.lt_of_lt_of_le hB3.lt hb40
  have hlt40_3 := Nat.le_trans hE0.size hb40
  replace hE12 := Ext.trans hE12 hE40
  replace hE3 := Ext.trans hE3 hE40
  replace hB3 := hB3.ext hE40
  replace hE0 := Ext.trans hE0 hE40
  replace hQ := hQ.ext hE40
  refine Seg.storeN rfl rfl rfl rfl hB40 rfl (by first | assumption | exact List.all_eq_true.1 rfl) (fun w41 hW41 hB41 => ?_)
  clear hB40
  replace hE40 := Ext.wr' hE40 hW41 (by omega)
  replace hE12 := Ext.wr' hE12 hW41 (by omega)
  replace hE3 := Ext.wr' hE3 hW41 (by omega)
  replace hB3 := hB3.wr hW41 (by omega)
  replace hE0 := Ext.wr' hE0 hW41 (by omega)
  refine Seg.nil (At.then_ (Cd.seq (Cd.region (Seg.step rfl rfl (Yd.fieldAddr rfl rfl) (Seg.step rfl rfl (Yd.loadN rfl rfl rfl (show Row _ (Addr.add _ 0) h.cells from hB3.row.part 0 10)) (Seg.step rfl rfl (Yd.loadN rfl rfl rfl hB41.row) ?_))))))
  (refine Seg.call rfl rfl (own_of rfl) rfl (hput_any h [qs.length, 0, 0, 0] _ hok rfl hcl) ?_; rintro _ w49 ⟨rfl, hE49⟩)
  replace hW41 := Wr.trans hW41 (Ext.wr hE49 _)
  replace hB41 := hB41.ext hE49
  replace hE40 := Ext.trans hE40 hE49
  replace hE12 := Ext.trans hE12 hE49
  replace hE3 := Ext.trans hE3 hE49
  replace hB3 := hB3.ext hE49
  replace hE0 := Ext.trans hE0 hE49
  refine Seg.step rfl rfl (Yd.move rfl) (Seg.step rfl rfl (Yd.extract rfl rfl) (Seg.step rfl rfl (Yd.extract rfl rfl) (Seg.step rfl rfl (Yd.assign rfl) (Seg.step rfl rfl (Yd.assign rfl) (Seg.nil (At.then_ (Cd.seq ?_)))))))
  refine Cd.seq (Cd.region (Seg.step rfl rfl (Yd.move rfl) (Seg.step rfl rfl (Yd.neq rfl rfl) (Seg.nil (At.then_ (Cd.condF rfl (Cd.skip ?_)))))))
  refine At.then_ (Cd.seq (Cd.region (Seg.step rfl rfl (Yd.move rfl) ?_)))
  (refine Seg.stbM rfl rfl rfl rfl (by rw [hdB_len]; show 4 + 2 * 4 ≤ _; omega) (fun v70 w70 hE70 hM70 => ?_); obtain ⟨go, co, rfl, _, _, _⟩ := hM70.sl; have hM9 := hM70; have hlt9 := hM70.lt; have hb9 := Below.size hE0; replace hB3 := hB3.ext hE70; replace hE0 := Ext.trans hE0 hE70; clear hM70)
  refine Seg.step rfl rfl (Yd.buildT (cs := _ :: _ :: []) 2 rfl rfl rfl rfl rfl) (Seg.alloc rfl rfl rfl (fun w72 b72 hE72 hB72 hb72 => ?_))
  have hlt72_0 := Nat.le_trans hE70.size hb72
  have hlt72_1 := Nat.lt_of_lt_of_le hB3.lt hb72
  have hlt72_2 := Nat.le_trans hE0.size hb72
  replace hE70 := Ext.trans hE70 hE72
  replace hM9 := hM9.ext hE72
  replace hB3 := hB3.ext hE72
  replace hE0 := Ext.trans hE0 hE72
  refine Seg.storeN rfl rfl rfl rfl hB72 rfl (by first | assumption | exact List.all_eq_true.1 rfl) (fun w73 hW73 hB73 => ?_)
  clear hB72
  replace hE72 := Ext.wr' hE72 hW73 (by omega)
  replace hE70 := Ext.wr' hE70 hW73 (by omega)
  replace hB3 := hB3.wr hW73 (by omega)
  replace hE0 := Ext.wr' hE0 hW73 (by omega)
  refine Seg.nil (At.then_ (Cd.seq (Cd.seq (Cd.region (Seg.step rfl rfl (Yd.move rfl) (Seg.nil (At.then_ ?_)))))))
  refine Cd.condT rfl (Cd.region ?_)
  (refine Seg.call rfl rfl (own_of rfl) rfl (pnew_any _) ?_; have hpb9 : ∃ cs, Bx _ b72 cs := ⟨_, by assumption⟩; rintro _ w84 ⟨⟨b9, bm9, rfl, hb9b, hb9m, hT9⟩, hE84⟩)
  replace hW73 := Wr.trans hW73 (Ext.wr hE84 _)
  replace hB73 := hB73.ext hE84
  replace hE72 := Ext.trans hE72 hE84
  replace hE70 := Ext.trans hE70 hE84
  replace hB3 := hB3.ext hE84
  replace hE0 := Ext.trans hE0 hE84
  refine Seg.step rfl rfl (Yd.fieldAddr rfl rfl) ?_
  refine Seg.store1 rfl rfl rfl rfl rfl hB73 (by first | omega | (simp; done) | exact Nat.le_of_ble_eq_true rfl) (fun w86 hW86 hB86 => ?_)
  clear hB73
  replace hW73 := Wr.trans hW73 hW86
  replace hE72 := Ext.wr' hE72 hW86 (by omega)
  replace hE70 := Ext.wr' hE70 hW86 (by omega)
  replace hB3 := hB3.wr hW86 (by omega)
  replace hE0 := Ext.wr' hE0 hW86 (by omega)
  refine Seg.nil (At.then_ (Cd.seq (Cd.seq ?_)))
  obtain ⟨cs9, hpb9⟩ := hpb9
  have hpb := hpb9.lt
  have hM86 := hM9.kept hW73 (fun e => by have := hlt9 _ e; omega)
  have hT86 : TabAt w86 b9 bm9 0 (fun _ => none) := ⟨hT9.1.wr hW86 (by omega), hT9.2.1.wr hW86 (by omega), hT9.2.2⟩
  have hWr : WrAt w86 b72 w49.heap.size (hdB h [qs.length, 0, 0, 0]) b9 bm9 0 (fun _ => none) := ⟨_, hB86, hM86, hT86, fun e => by have := hdB_len h [qs.length, 0, 0, 0]; rw [e] at this; cases this⟩
  have hB0 : Bx w86 b3 (mesV h (.slice ao qs.length c)) := hB3
  have hb972 : b3 ≠ b72 := by omega
  have hpw : w.heap.size ≤ b72 := by omega
  have hbmw : w.heap.size ≤ bm9 := by omega
  have h49w : w.heap.size ≤ w49.heap.size := by omega
  have h4986 : w49.heap.size ≤ w86.heap.size := by have := hWr; obtain ⟨vo, q1, q2, q3, _⟩ := this; have := q1.lt; omega
  clear hM9 hM86 hT86 hT9 hB86 hB3 hB41 hpb9 hlt9 hW73 hW86 hW41
  refine Cd.region (Seg.step rfl rfl (Yd.fieldAddr rfl rfl) (Seg.step rfl rfl (Yd.load1 rfl rfl (hB0.row _ _ rfl)) (Seg.step rfl rfl (Yd.lenS rfl rfl) (Seg.step rfl rfl (Yd.move rfl) (Seg.nil (At.then_ (Cd.block ?_)))))))
  refine Cd.loop (σ := Nat) (fun t => [(2, .pointer (some ⟨b3, 0, none⟩)), (10, .pointer (some ⟨b72, 0, none⟩)), (54, .slice ao qs.length c), (55, .int .i64 (qs.length : Int)), (56, .int .i64 (t : Int))])
    (fun t w' => (t ≤ qs.length ∧ w49.heap.size ≤ w'.heap.size) ∧ WrAt w' b72 w49.heap.size (encT h qs t).1 b9 bm9 (256 * t) (encT h qs t).2 ∧ Bx w' b3 (mesV h (.slice ao qs.length c)) ∧ Ext w w') (fun t => qs.length - t) 0 (.cons rfl (.cons rfl (.cons rfl (.cons rfl (.cons rfl (.nil _)))))) ⟨⟨Nat.zero_le _, h4986⟩, hWr, hB0, by assumption⟩ ?_
  clear hWr hB0 hE0
  rintro i w1 ⟨⟨hi, hs1⟩, hP1, hB1, hE1⟩
  by_cases hlt : i < qs.length
  · obtain ⟨a, rfl⟩ : ∃ a, ao = some a := by
      cases ao with
      | none => have := hz0 rfl; omega
      | some a => exact ⟨a, rfl⟩
    have hr0 := hr0 a rfl
    obtain ⟨q, hqj⟩ : ∃ q, qs[i]? = some q := ⟨_, List.getElem?_eq_getElem hlt⟩
    have hqm := List.mem_of_getElem? hqj
    have hck := qs_chk (hqs q hqm)
    have hNq := hnm q hqm
    have hok1 := encT_ok h qs i
    have hsp := out_spec hok1 q.n
    have hno := hit_no (encT h qs i).2 q.n
    have hkl := hit_le (encT h qs i).2 q.n
    have hln := (encT_len h qs i (by omega) hqs).2
    have hln2 := (encT_len h qs (i + 1) (by omega) hqs).2
    have hol := out_len (F := (encT h qs i).2) q.n
    have hsuc := encT_succ (h := h) hqj
    have hnl := szN_len q.n
    obtain ⟨g1, g2, g3, g4⟩ := hqs q hqm
    have hsl : ∃ ao co, q.v = .slice ao q.n.length co := by obtain ⟨ao, co, e, _⟩ := hNq; exact ⟨ao, co, e⟩
    obtain ⟨qn, qv, qk, qc⟩ := q
    obtain ⟨qa, qo, hqv⟩ := hsl
    simp only at hqv g1 g2 g3 g4 hck hNq hsp hno hkl hol hnl
    subst hqv
    have hrow : Row w (a.add (i * 3)) [.slice qa qn.length qo, .int .i64 (qk : Int), .int .i64 (qc : Int)] := by
      have h1 := hr0.part (i * 3) 3
      rw [qs_row hqj] at h1; exact h1
    unfold stepQ at hsuc
    simp only at hsuc
    obtain ⟨S2, hS2⟩ : ∃ S, S = encT h qs (i + 1) := ⟨_, rfl⟩
    rw [← hS2] at hsuc hln2
    have hr65 : S2.1.length ≤ 65535 := Nat.le_trans hln2 (Nat.le_trans (Nat.add_le_add_left (Nat.mul_le_mul_left 300 (Nat.succ_le_of_lt (Nat.lt_of_lt_of_le hlt hl))) 12) (by decide))
    generalize encT h qs i = S1 at hP1 hsuc hok1 hsp hno hkl hol hln
    have kP1 : Keep (WrAt w1 b72 w49.heap.size S1.1 b9 bm9 (256 * i) S1.2) := hP1
    have hEn := Ext.refl w1
    clear hP1
    refine Cd.seq (Cd.region (Seg.step rfl rfl (Yd.lss rfl rfl) (Seg.nil (At.then_ (Cd.seq ?_)))))
    refine Cd.condk rfl (fun h4993 => ?_) (fun h4993 => ?_)
    · refine Cd.skip (At.then_ (Cd.seq (Cd.block (Cd.seq (Cd.region (Seg.step rfl rfl (Yd.indexAddr rfl rfl rfl (NatOf.cast _) (by omega)) (Seg.step rfl rfl (Yd.loadN rfl rfl rfl (hrow.ext hE1)) ?_)))))))
      refine Seg.alloc rfl rfl rfl (fun w5003 b5003 hE5003 hB5003 hb5003 => ?_)
      have hlt5003_0 := Nat.le_trans hE1.size hb5003
      have hlt5003_1 := Nat.lt_of_lt_of_le hB1.lt hb5003
      have hlt5003_2 := Nat.le_trans hEn.size hb5003
      replace hE1 := Ext.trans hE1 hE5003
      replace hB1 := hB1.ext hE5003
      replace hEn := Ext.trans hEn hE5003
      refine Seg.storeN rfl rfl rfl rfl hB5003 rfl (by first | assumption | exact List.all_eq_true.1 rfl) (fun w5004 hW5004 hB5004 => ?_)
      clear hB5003
      replace hE5003 := Ext.wr' hE5003 hW5004 (by omega)
      replace hE1 := Ext.wr' hE1 hW5004 (by omega)
      replace hB1 := hB1.wr hW5004 (by omega)
      replace hEn := Ext.wr' hEn hW5004 (by omega)
      refine Seg.nil (At.then_ (Cd.seq (Cd.region (Seg.step rfl rfl (Yd.loadN rfl rfl rfl hB5004.row) ?_))))
      (refine Seg.call rfl rfl (own_of rfl) rfl (wquestion_any w qn _ b72 w49.heap.size b9 bm9 (256 * i) (hitK S1.2 qn) qk qc S1.1 (outK S1.2 qn) S1.2 _ (WrAt.ext kP1 hEn) hE1 hpw hbmw h49w (by have := Below.size hEn; omega) (by omega) hNq (by omega) hck (by omega) (by omega) g3 g4 hsp hno) ?_; rintro _ w5010 ⟨rfl, hP5010, hE5010, hS5010, hK5010⟩; have hP9 : WrAt w5010 b72 w49.heap.size S2.1 b9 bm9 (256 * (i + 1)) S2.2 := (by rw [hsuc]; exact WrAt.mono hP5010 (by omega)); have hB9 : Bx w5010 b3 (mesV h (.slice (some a) qs.length c)) := hK5010 b3 (.int .i64 h.id) _ hB1 (fun _ e => by cases e) hb972; have hE9 := hE5010; have hs9 : w49.heap.size ≤ w5010.heap.size := (by have := Below.size hEn; omega); have hEm := Ext.refl w5010; clear hP5010 hE5010 hS5010 hK5010 hEn hE1 hB1)
      (refine Seg.call rfl rfl (own_of rfl) rfl (wroom_any b72 w49.heap.size b9 bm9 (256 * (i + 1)) S2.1 S2.2 _ hP9 hr65) ?_; rintro _ w5011 ⟨rfl, hE5011⟩)
      replace hP9 := hP9.ext hE5011
      replace hB9 := hB9.ext hE5011
      replace hE9 := Ext.trans hE9 hE5011
      replace hEm := Ext.trans hEm hE5011
      refine Seg.step rfl rfl (Yd.assign rfl) (Seg.nil (At.then_ (Cd.seq (Cd.region (Seg.step rfl rfl (Yd.move rfl) (Seg.step rfl rfl (Yd.neq rfl rfl) (Seg.nil ?_)))))))
      refine At.then_ (Cd.condF rfl (Cd.skip (At.blk (At.then_ (Cd.region (Seg.step rfl rfl (Yd.addI rfl rfl (by omega)) (Seg.step rfl rfl (Yd.move rfl) ?_)))))))
      refine Seg.nil ?_
      exact At.round (i + 1) (.cons rfl (.cons rfl (.cons rfl (.cons rfl (.cons rfl (.nil _)))))) ⟨⟨hlt, by have := Below.size hEm; omega⟩, by rw [← hS2]; exact hP9, hB9, hE9⟩ (Nat.sub_lt_sub_left hlt (Nat.lt_succ_self i))
    · exfalso; omega
  · obtain rfl : i = qs.length := by omega
    obtain ⟨vo, p1, p2, _, _⟩ := hP1
    obtain ⟨vg, vc, rfl, _, _, _⟩ := p2.sl
    have hEn := Ext.refl w1
    have kE1 : Keep (Ext w w1) := hE1
    have k1 : Keep (Bx w1 b72 [.slice vg (encT h qs qs.length).1.length vc, .pointer (some ⟨b9, 0, none⟩)]) := p1
    have k2 : Keep (OwnM w1 w49.heap.size (.slice vg (encT h qs qs.length).1.length vc) (encT h qs qs.length).1) := p2
    clear hE1 p1 p2
    refine Cd.seq (Cd.region (Seg.step rfl rfl (Yd.lss rfl rfl) (Seg.nil (At.then_ (Cd.seq ?_)))))
    refine Cd.condk rfl (fun h4993 => ?_) (fun h4993 => ?_)
    · exfalso; omega
    refine Cd.exit (At.then_exit (At.then_exit (At.blk_same (At.then_ (Cd.seq (Cd.seq (Cd.region ?_)))))))
    refine Seg.step rfl rfl (Yd.loadN rfl rfl rfl hB1.row) ?_
    (refine Seg.call rfl rfl (own_of rfl) rfl (mlists_any h ao _ c _) ?_; rintro _ w5004 ⟨rfl, hE5004⟩)
    replace hB1 := hB1.ext hE5004
    replace hEn := Ext.trans hEn hE5004
    refine Seg.step rfl rfl (Yd.move rfl) (Seg.nil (At.then_ (Cd.block (Cd.loop (σ := Nat) (fun t => [(10, .pointer (some ⟨b72, 0, none⟩)), (68, .agg #[.slice none 0 0, .slice none 0 0, .slice none 0 0]), (69, .int .i64 (t : Int))]) (fun t w' => t ≤ 3 ∧ Ext w1 w') (fun t => 3 - t) 0 (.cons rfl (.cons rfl (.cons rfl (.nil _)))) ⟨by decide, by assumption⟩ ?_))))
    clear hEn
    rintro i w3 ⟨hi, hE1⟩
    by_cases hlt : i < 3
    · have hv : [Value.slice none 0 0, .slice none 0 0, .slice none 0 0][i]? = some (.slice none 0 0) := by
        rcases i with _ | _ | _ | i
        · rfl
        · rfl
        · rfl
        · omega
      refine Cd.seq (Cd.region (Seg.step rfl rfl (Yd.lss rfl rfl) (Seg.nil (At.then_ (Cd.seq ?_)))))
      refine Cd.condk rfl (fun h5011 => ?_) (fun h5011 => ?_)
      rotate_left 1
      · exfalso; omega
      rotate_right 1
      refine Cd.skip (At.then_ (Cd.seq (Cd.block (Cd.seq (Cd.region ?_)))))
      (refine Seg.step rfl rfl (Yd.indexV rfl rfl rfl rfl (NatOf.cast _) hlt hv) ?_)
      refine Seg.step rfl rfl (Yd.assign rfl) (Seg.nil (At.then_ (Cd.seq (Cd.region (Seg.step rfl rfl (Yd.move rfl) (Seg.step rfl rfl (Yd.lenS rfl rfl) (Seg.step rfl rfl (Yd.move rfl) ?_)))))))
      refine Seg.nil (At.then_ (Cd.block (Cd.loop (σ := Unit) (fun _ => [(10, .pointer (some ⟨b72, 0, none⟩)), (68, .agg #[.slice none 0 0, .slice none 0 0, .slice none 0 0]), (69, .int .i64 (i : Int)), (73, .int .i64 0), (74, .int .i64 0)]) (fun _ w' => Ext w1 w') (fun _ => 0) () (.cons rfl (.cons rfl (.cons rfl (.cons rfl (.cons rfl (.nil _)))))) (by assumption) ?_)))
      clear hE1
      rintro _ w4 hE1
      refine Cd.seq (Cd.region (Seg.step rfl rfl (Yd.lss rfl rfl) (Seg.nil (At.then_ (Cd.seq (Cd.condF rfl (Cd.exit ?_)))))))
      refine At.then_exit (At.then_exit (At.blk_same (At.blk (At.then_ (Cd.region (Seg.step rfl rfl (Yd.addI rfl rfl (by omega)) (Seg.step rfl rfl (Yd.move rfl) ?_)))))))
      refine Seg.nil ?_
      exact At.round (i + 1) (.cons rfl (.cons rfl (.cons rfl (.nil _)))) ⟨hlt, hE1⟩ (by show 3 - (i + 1) < 3 - i; omega)
    · have p3 := Bx.ext k1 hE1
      refine Cd.seq (Cd.region (Seg.step rfl rfl (Yd.lss rfl rfl) (Seg.nil (At.then_ (Cd.seq ?_)))))
      refine Cd.condk rfl (fun h5011 => ?_) (fun h5011 => ?_)
      · exfalso; omega
      · refine Cd.exit (At.then_exit (At.then_exit (At.blk_same (At.then_ (Cd.seq (Cd.region (Seg.step rfl rfl (Yd.fieldAddr rfl rfl) ?_)))))))
        refine Seg.step rfl rfl (Yd.load1 rfl rfl (p3.row _ _ rfl)) ?_
        (refine Seg.step rfl rfl (Yd.bts (l := (encT h qs qs.length).1) rfl rfl rfl rfl (OwnM.sl (OwnM.ext k2 hE1))) ?_)
        refine Seg.step rfl rfl (Yd.assign rfl) (Seg.step rfl rfl (Yd.assign rfl) (Seg.nil (At.then_ (Cd.ret ?_))))
        exact At.ret Tryz.results6 (.tmp rfl (.tmp rfl .nil)) ⟨rfl, Ext.trans kE1 hE1⟩
