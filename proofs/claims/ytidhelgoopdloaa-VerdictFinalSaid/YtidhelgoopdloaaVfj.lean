/- Messages compared with themselves; the verdicts; the walk of the law VerdictFinal. -/
import Derived.Test.YtidhelgoopdloaaVfi
import Derived.Test.YtidhelgoopdloaaAx
namespace Go.Proofs.Ytidhelgoopdloaa
open Go Go.RowKit
/-- A head. -/
structure Hd where
  id : Int
  qr : Bool
  op : Int
  aa : Bool
  tc : Bool
  rd : Bool
  ra : Bool
  ad : Bool
  cd : Bool
  rc : Int
def Hd.cells (h : Hd) : List Value := [.int .i64 h.id, .bool h.qr, .int .i64 h.op, .bool h.aa, .bool h.tc, .bool h.rd, .bool h.ra, .bool h.ad, .bool h.cd, .int .i64 h.rc]
def Hd.lits (h : Hd) : List Lit := [.int .i64 h.id, .bool h.qr, .int .i64 h.op, .bool h.aa, .bool h.tc, .bool h.rd, .bool h.ra, .bool h.ad, .bool h.cd, .int .i64 h.rc]
def WfH (h : Hd) : Prop := W64 h.id ∧ W64 h.op ∧ W64 h.rc
theorem hd_lits (h : Hd) (hw : WfH h) : Try.prog.keyLits 2 23 h.cells = some h.lits := by
  obtain ⟨h1, h2, h3⟩ := hw
  unfold W64 at h1 h2 h3
  have e23 := cellsOf_run Try.sizeOf23
  have e3 := cellsOf_run Try.sizeOf3
  have e4 := cellsOf_run Try.sizeOf4
  simp [Program.keyLits, Try.underlying23, Try.underlying3, Try.underlying4, e23, e3, e4, Hd.cells, Hd.lits, h1, h2, h3]
/-- A message with these answers alone. -/
def msgV (h : Hd) (v : Value) : List Value := h.cells ++ [.slice none 0 0, v, .slice none 0 0, .slice none 0 0]
def verd (e rc : Int) : Int := if e = 0 then 1 else if e = 15 then 5 else if rc = 3 then 3 else 2
theorem verd0 {e rc : Int} (h : e = 0) : verd e rc = 1 := if_pos h
theorem verd1 {e rc : Int} (h : ¬ e = 0) (h' : e = 15) : verd e rc = 5 := by unfold verd; rw [if_neg h, if_pos h']
theorem verd2 {e rc : Int} (h : ¬ e = 0) (h' : ¬ e = 15) (h3 : rc = 3) : verd e rc = 3 := by unfold verd; rw [if_neg h, if_neg h', if_pos h3]
theorem verd3 {e rc : Int} (h : ¬ e = 0) (h' : ¬ e = 15) (h3 : ¬ rc = 3) : verd e rc = 2 := by unfold verd; rw [if_neg h, if_neg h', if_neg h3]
set_option maxHeartbeats 400000 in
theorem same14 (h : Hd) (rs : List Rec) (av : Option Addr) (cv : Nat) (w : World) (h0 : RecsAt w (.slice av rs.length cv) rs) (hw : WfH h) (hf : ∀ r ∈ rs, FitR r) (hwr : ∀ r ∈ rs, WfR r) (hl : rs.length ≤ 1000) :
    Ret Try.prog 22 #[.agg (msgV h (.slice av rs.length cv)).toArray, .agg (msgV h (.slice av rs.length cv)).toArray] w fun v w' => v = .bool true ∧ Ext w w' := by
  have hE0 := Ext.refl w
  have hk0 : RecsAt w (.slice av rs.length cv) rs ∧ True := ⟨h0, trivial⟩
  refine Ret.body Try.func22 rfl Try.ntmps22 rfl ?_
  refine Cd.seq ?_
  refine Cd.region ?_
  refine Seg.box rfl rfl rfl (fun w3 b3 hE3 hB3 hb3 => ?_)
  have hlt3_0 := Nat.le_trans hE0.size hb3
  replace h0 := h0.ext hE3
  replace hE0 := Ext.trans hE0 hE3
  refine Seg.box rfl rfl rfl (fun w4 b4 hE4 hB4 hb4 => ?_)
  have hlt4_0 := Nat.le_trans hE3.size hb4
  have hlt4_1 := Nat.lt_of_lt_of_le hB3.lt hb4
  have hlt4_2 := Nat.le_trans hE0.size hb4
  replace hE3 := Ext.trans hE3 hE4
  replace hB3 := hB3.ext hE4
  replace h0 := h0.ext hE4
  replace hE0 := Ext.trans hE0 hE4
  refine Seg.step rfl rfl (Yd.assign rfl) ?_
  refine Seg.nil ?_
  refine At.then_ ?_
  refine Cd.seq ?_
  refine Cd.seq ?_
  refine Cd.region ?_
  refine Seg.step rfl rfl (Yd.fieldAddr rfl rfl) ?_
  refine Seg.step rfl rfl (Yd.loadN rfl rfl rfl (show Row _ _ h.cells from hB3.row.part 0 10)) ?_
  refine Seg.step rfl rfl (Yd.fieldAddr rfl rfl) ?_
  refine Seg.step rfl rfl (Yd.loadN rfl rfl rfl (show Row _ _ h.cells from hB4.row.part 0 10)) ?_
  refine Seg.step rfl rfl (Yd.neqD rfl rfl (by kernel_rfl) (by kernel_rfl) (by kernel_rfl) (by kernel_rfl) (hd_lits h hw) (hd_lits h hw) (p := True) (by simp)) ?_
  refine Seg.step rfl rfl (Yd.move rfl) ?_
  refine Seg.step rfl rfl (Yd.fieldAddr rfl rfl) ?_
  refine Seg.step rfl rfl (Yd.load1 rfl rfl (hB3.row _ _ rfl)) ?_
  refine Seg.step rfl rfl (Yd.lenS rfl rfl) ?_
  refine Seg.step rfl rfl (Yd.fieldAddr rfl rfl) ?_
  refine Seg.step rfl rfl (Yd.load1 rfl rfl (hB4.row _ _ rfl)) ?_
  refine Seg.step rfl rfl (Yd.lenS rfl rfl) ?_
  refine Seg.step rfl rfl (Yd.neq rfl rfl) ?_
  refine Seg.step rfl rfl (Yd.pickF rfl rfl) ?_
  refine Seg.nil ?_
  refine At.then_ ?_
  refine Cd.condF rfl ?_
  refine Cd.skip ?_
  refine At.then_ ?_
  refine Cd.seq ?_
  refine Cd.seq ?_
  refine Cd.region ?_
  refine Seg.step rfl rfl (Yd.assign rfl) ?_
  refine Seg.nil ?_
  refine At.then_ ?_
  refine Cd.block ?_
  refine Cd.loop (σ := Unit) (fun _ => [(2, .pointer (some ⟨b3, 0, none⟩)), (3, .pointer (some ⟨b4, 0, none⟩)), (5, .int .i64 0)]) (fun _ w' => w' = w4) (fun _ => 0) () (.cons rfl (.cons rfl (.cons rfl (.nil _)))) rfl ?_
  rintro _ _ rfl
  refine Cd.seq ?_
  refine Cd.seq ?_
  refine Cd.region ?_
  refine Seg.step rfl rfl (Yd.move rfl) ?_
  refine Seg.step rfl rfl (Yd.fieldAddr rfl rfl) ?_
  refine Seg.step rfl rfl (Yd.load1 rfl rfl (hB3.row _ _ rfl)) ?_
  refine Seg.step rfl rfl (Yd.lenS rfl rfl) ?_
  refine Seg.step rfl rfl (Yd.lss rfl rfl) ?_
  refine Seg.nil ?_
  refine At.then_ ?_
  refine Cd.condF rfl ?_
  refine Cd.exit ?_
  refine At.then_exit ?_
  refine At.then_exit ?_
  refine At.blk_same ?_
  refine At.then_ ?_
  refine Cd.seq ?_
  refine Cd.region ?_
  refine Seg.step rfl rfl (Yd.fieldAddr rfl rfl) ?_
  refine Seg.step rfl rfl (Yd.load1 rfl rfl (hB3.row _ _ rfl)) ?_
  refine Seg.step rfl rfl (Yd.fieldAddr rfl rfl) ?_
  refine Seg.step rfl rfl (Yd.load1 rfl rfl (hB4.row _ _ rfl)) ?_
  (refine Seg.call rfl rfl (own_of rfl) rfl (sameRRs rs rs _ _ _ h0 h0 hf hwr hwr hl) ?_; rintro _ w27 ⟨⟨bb, rfl, kk⟩, hE27⟩; obtain rfl : bb = true := kk.2 rfl)
  replace hE4 := Ext.trans hE4 hE27
  replace hB4 := hB4.ext hE27
  replace hE3 := Ext.trans hE3 hE27
  replace hB3 := hB3.ext hE27
  replace h0 := h0.ext hE27
  replace hE0 := Ext.trans hE0 hE27
  refine Seg.step rfl rfl (Yd.move rfl) ?_
  refine Seg.step rfl rfl (Yd.fieldAddr rfl rfl) ?_
  refine Seg.step rfl rfl (Yd.load1 rfl rfl (hB3.row _ _ rfl)) ?_
  refine Seg.step rfl rfl (Yd.fieldAddr rfl rfl) ?_
  refine Seg.step rfl rfl (Yd.load1 rfl rfl (hB4.row _ _ rfl)) ?_
  (refine Seg.call rfl rfl (own_of rfl) rfl (sameRRs [] [] _ _ _ (RecsAt.nil _) (RecsAt.nil _) (fun _ h => by cases h) (fun _ h => by cases h) (fun _ h => by cases h) (by simp)) ?_; rintro _ w33 ⟨⟨bb, rfl, kk⟩, hE33⟩; obtain rfl : bb = true := kk.2 rfl)
  replace hE27 := Ext.trans hE27 hE33
  replace hE4 := Ext.trans hE4 hE33
  replace hB4 := hB4.ext hE33
  replace hE3 := Ext.trans hE3 hE33
  replace hB3 := hB3.ext hE33
  replace h0 := h0.ext hE33
  replace hE0 := Ext.trans hE0 hE33
  refine Seg.step rfl rfl (Yd.pickT rfl rfl) ?_
  refine Seg.step rfl rfl (Yd.move rfl) ?_
  refine Seg.step rfl rfl (Yd.fieldAddr rfl rfl) ?_
  refine Seg.step rfl rfl (Yd.load1 rfl rfl (hB3.row _ _ rfl)) ?_
  refine Seg.step rfl rfl (Yd.fieldAddr rfl rfl) ?_
  refine Seg.step rfl rfl (Yd.load1 rfl rfl (hB4.row _ _ rfl)) ?_
  (refine Seg.call rfl rfl (own_of rfl) rfl (sameRRs [] [] _ _ _ (RecsAt.nil _) (RecsAt.nil _) (fun _ h => by cases h) (fun _ h => by cases h) (fun _ h => by cases h) (by simp)) ?_; rintro _ w40 ⟨⟨bb, rfl, kk⟩, hE40⟩; obtain rfl : bb = true := kk.2 rfl)
  replace hE33 := Ext.trans hE33 hE40
  replace hE27 := Ext.trans hE27 hE40
  replace hE4 := Ext.trans hE4 hE40
  replace hB4 := hB4.ext hE40
  replace hE3 := Ext.trans hE3 hE40
  replace hB3 := hB3.ext hE40
  replace h0 := h0.ext hE40
  replace hE0 := Ext.trans hE0 hE40
  refine Seg.step rfl rfl (Yd.pickT rfl rfl) ?_
  refine Seg.step rfl rfl (Yd.assign rfl) ?_
  refine Seg.nil ?_
  refine At.then_ ?_
  refine Cd.ret ?_
  exact At.ret Try.results22 (.tmp rfl .nil) ⟨rfl, hE0⟩
set_option maxHeartbeats 400000 in
theorem refFinal_any (h : Hd) (rs : List Rec) (qn : Name) (vq : Value) (av : Option Addr) (cv : Nat) (qt qc : Int) (w : World) (h0 : RecsAt w (.slice av rs.length cv) rs) (h1 : NameAt w vq qn) (hf : ∀ r ∈ rs, FitR r) (hq : Fit qn) (hl : rs.length ≤ 1000) :
    Ret Try.prog 21 #[.agg #[vq, .int .i64 qt, .int .i64 qc], .agg (msgV h (.slice av rs.length cv)).toArray] w fun v w' => v = .int .i64 (verd (folR qt qc rs qn).e h.rc) ∧ Ext w w' := by
  have hE0 := Ext.refl w
  have hinq : Keep (NameAt w vq qn) := h1
  obtain ⟨o, ho⟩ : ∃ o, folR qt qc rs qn = o := ⟨_, rfl⟩
  rw [ho]
  refine Ret.body Try.func21 rfl Try.ntmps21 rfl ?_
  refine Cd.seq ?_
  refine Cd.region ?_
  refine Seg.box rfl rfl rfl (fun w4 b4 hE4 hB4 hb4 => ?_)
  have hlt4_0 := Nat.le_trans hE0.size hb4
  replace h0 := h0.ext hE4
  replace hE0 := Ext.trans hE0 hE4
  refine Seg.box rfl rfl rfl (fun w5 b5 hE5 hB5 hb5 => ?_)
  have hlt5_0 := Nat.le_trans hE4.size hb5
  have hlt5_1 := Nat.lt_of_lt_of_le hB4.lt hb5
  have hlt5_2 := Nat.le_trans hE0.size hb5
  replace hE4 := Ext.trans hE4 hE5
  replace hB4 := hB4.ext hE5
  replace h0 := h0.ext hE5
  replace hE0 := Ext.trans hE0 hE5
  refine Seg.step rfl rfl (Yd.assign rfl) ?_
  refine Seg.nil ?_
  refine At.then_ ?_
  refine Cd.seq ?_
  refine Cd.region ?_
  refine Seg.step rfl rfl (Yd.loadN rfl rfl rfl hB4.row) ?_
  refine Seg.step rfl rfl (Yd.fieldAddr rfl rfl) ?_
  refine Seg.step rfl rfl (Yd.load1 rfl rfl (hB5.row _ _ rfl)) ?_
  (refine Seg.call rfl rfl (own_of rfl) rfl (refFollow_any rs qn vq _ qt qc _ h0 ((show NameAt w vq qn from hinq).ext hE0) hf hq hl o ho) ?_; rintro _ w14 ⟨⟨al, nl, cl, ar, cr, tt, ll, rfl⟩, hE14⟩)
  replace hE5 := Ext.trans hE5 hE14
  replace hB5 := hB5.ext hE14
  replace hE4 := Ext.trans hE4 hE14
  replace hB4 := hB4.ext hE14
  replace h0 := h0.ext hE14
  replace hE0 := Ext.trans hE0 hE14
  refine Seg.step rfl rfl (Yd.move rfl) ?_
  refine Seg.step rfl rfl (Yd.extract rfl rfl) ?_
  refine Seg.step rfl rfl (Yd.extract rfl rfl) ?_
  refine Seg.alloc rfl rfl rfl (fun w18 b18 hE18 hB18 hb18 => ?_)
  have hlt18_0 := Nat.le_trans hE14.size hb18
  have hlt18_1 := Nat.le_trans hE5.size hb18
  have hlt18_2 := Nat.lt_of_lt_of_le hB5.lt hb18
  have hlt18_3 := Nat.le_trans hE4.size hb18
  have hlt18_4 := Nat.lt_of_lt_of_le hB4.lt hb18
  have hlt18_5 := Nat.le_trans hE0.size hb18
  replace hE14 := Ext.trans hE14 hE18
  replace hE5 := Ext.trans hE5 hE18
  replace hB5 := hB5.ext hE18
  replace hE4 := Ext.trans hE4 hE18
  replace hB4 := hB4.ext hE18
  replace h0 := h0.ext hE18
  replace hE0 := Ext.trans hE0 hE18
  refine Seg.storeN rfl rfl rfl rfl hB18 rfl (by first | assumption | exact List.all_eq_true.1 rfl) (fun w19 hW19 hB19 => ?_)
  clear hB18
  replace hE18 := Ext.wr' hE18 hW19 (by omega)
  replace hE14 := Ext.wr' hE14 hW19 (by omega)
  replace hE5 := Ext.wr' hE5 hW19 (by omega)
  replace hB5 := hB5.wr hW19 (by omega)
  replace hE4 := Ext.wr' hE4 hW19 (by omega)
  replace hB4 := hB4.wr hW19 (by omega)
  replace hE0 := Ext.wr' hE0 hW19 (by omega)
  refine Seg.step rfl rfl (Yd.assign rfl) ?_
  refine Seg.nil ?_
  refine At.then_ ?_
  refine Cd.seq ?_
  refine Cd.block ?_
  refine Cd.seq ?_
  refine Cd.region ?_
  refine Seg.step rfl rfl (Yd.move rfl) ?_
  refine Seg.step rfl rfl (Yd.eql rfl rfl) ?_
  refine Seg.step rfl rfl (Yd.assign rfl) ?_
  refine Seg.nil ?_
  refine At.then_ ?_
  refine Cd.condk rfl (fun h32 => ?_) (fun h32 => ?_)
  · refine Cd.seq ?_
    refine Cd.region ?_
    refine Seg.step rfl rfl (Yd.assign rfl) ?_
    refine Seg.nil ?_
    refine At.then_ ?_
    refine Cd.ret ?_
    refine At.blk_ret ?_
    refine At.then_ret ?_
    exact At.ret Try.results21 (.tmp rfl .nil) ⟨congrArg (Value.int .i64) (verd0 (by assumption)).symm, hE0⟩
  · refine Cd.seq ?_
    refine Cd.region ?_
    refine Seg.step rfl rfl (Yd.move rfl) ?_
    refine Seg.step rfl rfl (Yd.eql rfl rfl) ?_
    refine Seg.step rfl rfl (Yd.assign rfl) ?_
    refine Seg.nil ?_
    refine At.then_ ?_
    refine Cd.condk rfl (fun h51 => ?_) (fun h51 => ?_)
    · refine Cd.seq ?_
      refine Cd.region ?_
      refine Seg.step rfl rfl (Yd.assign rfl) ?_
      refine Seg.nil ?_
      refine At.then_ ?_
      refine Cd.ret ?_
      refine At.blk_ret ?_
      refine At.then_ret ?_
      exact At.ret Try.results21 (.tmp rfl .nil) ⟨congrArg (Value.int .i64) (verd1 (by assumption) (by assumption)).symm, hE0⟩
    · refine Cd.seq ?_
      refine Cd.region ?_
      refine Seg.step rfl rfl (Yd.fieldAddr rfl rfl) ?_
      refine Seg.step rfl rfl (Yd.fieldAddr' rfl rfl) ?_
      refine Seg.step rfl rfl (Yd.load1 rfl rfl (hB5.row _ _ rfl)) ?_
      refine Seg.step rfl rfl (Yd.eql rfl rfl) ?_
      refine Seg.step rfl rfl (Yd.assign rfl) ?_
      refine Seg.nil ?_
      refine At.then_ ?_
      refine Cd.condk rfl (fun h72 => ?_) (fun h72 => ?_)
      · refine Cd.seq ?_
        refine Cd.region ?_
        refine Seg.step rfl rfl (Yd.assign rfl) ?_
        refine Seg.nil ?_
        refine At.then_ ?_
        refine Cd.ret ?_
        refine At.blk_ret ?_
        refine At.then_ret ?_
        exact At.ret Try.results21 (.tmp rfl .nil) ⟨congrArg (Value.int .i64) (verd2 (by assumption) (by assumption) (by assumption)).symm, hE0⟩
      · refine Cd.skip ?_
        refine At.blk ?_
        refine At.then_ ?_
        refine Cd.seq ?_
        refine Cd.region ?_
        refine Seg.step rfl rfl (Yd.assign rfl) ?_
        refine Seg.nil ?_
        refine At.then_ ?_
        refine Cd.ret ?_
        exact At.ret Try.results21 (.tmp rfl .nil) ⟨congrArg (Value.int .i64) (verd3 (by assumption) (by assumption) (by assumption)).symm, hE0⟩
set_option maxHeartbeats 400000 in
theorem final_any (h : Hd) (rs : List Rec) (qn : Name) (vq : Value) (av : Option Addr) (cv : Nat) (qt qc : Int) (w : World) (h0 : RecsAt w (.slice av rs.length cv) rs) (h1 : NameAt w vq qn) (hf : ∀ r ∈ rs, FitR r) (hq : Fit qn) (hl : rs.length ≤ 1000) :
    Ret Try.prog 19 #[.agg #[vq, .int .i64 qt, .int .i64 qc], .agg (msgV h (.slice av rs.length cv)).toArray] w fun v w' => v = .agg (.int .i64 (verd (folR qt qc rs qn).e h.rc) :: msgV h (.slice av rs.length cv)).toArray ∧ Ext w w' := by
  have hE0 := Ext.refl w
  have hinq : Keep (NameAt w vq qn) := h1
  obtain ⟨o, ho⟩ : ∃ o, folR qt qc rs qn = o := ⟨_, rfl⟩
  rw [ho]
  refine Ret.body Try.func19 rfl Try.ntmps19 rfl ?_
  refine Cd.seq ?_
  refine Cd.region ?_
  refine Seg.box rfl rfl rfl (fun w4 b4 hE4 hB4 hb4 => ?_)
  have hlt4_0 := Nat.le_trans hE0.size hb4
  replace h0 := h0.ext hE4
  replace hE0 := Ext.trans hE0 hE4
  refine Seg.box rfl rfl rfl (fun w5 b5 hE5 hB5 hb5 => ?_)
  have hlt5_0 := Nat.le_trans hE4.size hb5
  have hlt5_1 := Nat.lt_of_lt_of_le hB4.lt hb5
  have hlt5_2 := Nat.le_trans hE0.size hb5
  replace hE4 := Ext.trans hE4 hE5
  replace hB4 := hB4.ext hE5
  replace h0 := h0.ext hE5
  replace hE0 := Ext.trans hE0 hE5
  refine Seg.alloc rfl rfl rfl (fun w6 b6 hE6 hB6 hb6 => ?_)
  have hlt6_0 := Nat.le_trans hE5.size hb6
  have hlt6_1 := Nat.lt_of_lt_of_le hB5.lt hb6
  have hlt6_2 := Nat.le_trans hE4.size hb6
  have hlt6_3 := Nat.lt_of_lt_of_le hB4.lt hb6
  have hlt6_4 := Nat.le_trans hE0.size hb6
  replace hE5 := Ext.trans hE5 hE6
  replace hB5 := hB5.ext hE6
  replace hE4 := Ext.trans hE4 hE6
  replace hB4 := hB4.ext hE6
  replace h0 := h0.ext hE6
  replace hE0 := Ext.trans hE0 hE6
  refine Seg.nil ?_
  refine At.then_ ?_
  refine Cd.seq ?_
  refine Cd.region ?_
  refine Seg.step rfl rfl (Yd.loadN rfl rfl rfl hB4.row) ?_
  refine Seg.step rfl rfl (Yd.fieldAddr rfl rfl) ?_
  refine Seg.step rfl rfl (Yd.load1 rfl rfl (hB5.row _ _ rfl)) ?_
  (refine Seg.call rfl rfl (own_of rfl) rfl (follow_out rs qn vq _ qt qc _ h0 ((show NameAt w vq qn from hinq).ext hE0) hf hq hl o ho) ?_; rintro _ w14 ⟨⟨an, cn, ar, cr, rfl, hvn, hvr⟩, hE14⟩)
  replace hE6 := Ext.trans hE6 hE14
  replace hB6 := hB6.ext hE14
  replace hE5 := Ext.trans hE5 hE14
  replace hB5 := hB5.ext hE14
  replace hE4 := Ext.trans hE4 hE14
  replace hB4 := hB4.ext hE14
  replace h0 := h0.ext hE14
  replace hE0 := Ext.trans hE0 hE14
  refine Seg.step rfl rfl (Yd.move rfl) ?_
  refine Seg.step rfl rfl (Yd.extract rfl rfl) ?_
  refine Seg.step rfl rfl (Yd.extract rfl rfl) ?_
  refine Seg.alloc rfl rfl rfl (fun w18 b18 hE18 hB18 hb18 => ?_)
  have hlt18_0 := Nat.le_trans hE14.size hb18
  have hlt18_1 := Nat.le_trans hE6.size hb18
  have hlt18_2 := Nat.lt_of_lt_of_le hB6.lt hb18
  have hlt18_3 := Nat.le_trans hE5.size hb18
  have hlt18_4 := Nat.lt_of_lt_of_le hB5.lt hb18
  have hlt18_5 := Nat.le_trans hE4.size hb18
  have hlt18_6 := Nat.lt_of_lt_of_le hB4.lt hb18
  have hlt18_7 := Nat.le_trans hE0.size hb18
  replace hE14 := Ext.trans hE14 hE18
  replace hvn := hvn.ext hE18
  replace hvr := hvr.ext hE18
  replace hE6 := Ext.trans hE6 hE18
  replace hB6 := hB6.ext hE18
  replace hE5 := Ext.trans hE5 hE18
  replace hB5 := hB5.ext hE18
  replace hE4 := Ext.trans hE4 hE18
  replace hB4 := hB4.ext hE18
  replace h0 := h0.ext hE18
  replace hE0 := Ext.trans hE0 hE18
  refine Seg.storeN rfl rfl rfl rfl hB18 rfl (by first | assumption | exact List.all_eq_true.1 rfl) (fun w19 hW19 hB19 => ?_)
  clear hB18
  replace hE18 := Ext.wr' hE18 hW19 (by omega)
  replace hE14 := Ext.wr' hE14 hW19 (by omega)
  replace hvn := hvn.wr hW19 (by omega)
  replace hvr := hvr.wr hW19 (by omega)
  replace hE6 := Ext.wr' hE6 hW19 (by omega)
  replace hB6 := hB6.wr hW19 (by omega)
  replace hE5 := Ext.wr' hE5 hW19 (by omega)
  replace hB5 := hB5.wr hW19 (by omega)
  replace hE4 := Ext.wr' hE4 hW19 (by omega)
  replace hB4 := hB4.wr hW19 (by omega)
  replace hE0 := Ext.wr' hE0 hW19 (by omega)
  refine Seg.step rfl rfl (Yd.assign rfl) ?_
  refine Seg.nil ?_
  refine At.then_ ?_
  refine Cd.seq ?_
  refine Cd.region ?_
  refine Seg.step rfl rfl (Yd.loadN rfl rfl rfl hB5.row) ?_
  refine Seg.step rfl rfl (Yd.buildT (cs := _ :: _ :: _ :: _ :: _ :: _ :: _ :: _ :: _ :: _ :: _ :: _ :: _ :: _ :: _ :: []) 15 rfl rfl rfl rfl rfl) ?_
  refine Seg.alloc rfl rfl rfl (fun w27 b27 hE27 hB27 hb27 => ?_)
  have hlt27_0 := Nat.lt_of_lt_of_le hB19.lt hb27
  have hlt27_1 := Nat.le_trans hE18.size hb27
  have hlt27_2 := Nat.le_trans hE14.size hb27
  have hlt27_3 := Nat.le_trans hE6.size hb27
  have hlt27_4 := Nat.lt_of_lt_of_le hB6.lt hb27
  have hlt27_5 := Nat.le_trans hE5.size hb27
  have hlt27_6 := Nat.lt_of_lt_of_le hB5.lt hb27
  have hlt27_7 := Nat.le_trans hE4.size hb27
  have hlt27_8 := Nat.lt_of_lt_of_le hB4.lt hb27
  have hlt27_9 := Nat.le_trans hE0.size hb27
  replace hW19 := Wr.trans hW19 (Ext.wr hE27 _)
  replace hB19 := hB19.ext hE27
  replace hE18 := Ext.trans hE18 hE27
  replace hE14 := Ext.trans hE14 hE27
  replace hvn := hvn.ext hE27
  replace hvr := hvr.ext hE27
  replace hE6 := Ext.trans hE6 hE27
  replace hB6 := hB6.ext hE27
  replace hE5 := Ext.trans hE5 hE27
  replace hB5 := hB5.ext hE27
  replace hE4 := Ext.trans hE4 hE27
  replace hB4 := hB4.ext hE27
  replace hE0 := Ext.trans hE0 hE27
  refine Seg.storeN rfl rfl rfl rfl hB27 rfl (by first | assumption | exact List.all_eq_true.1 rfl) (fun w28 hW28 hB28 => ?_)
  clear hB27
  replace hE27 := Ext.wr' hE27 hW28 (by omega)
  replace hB19 := hB19.wr hW28 (by omega)
  replace hE18 := Ext.wr' hE18 hW28 (by omega)
  replace hE14 := Ext.wr' hE14 hW28 (by omega)
  replace hvn := hvn.wr hW28 (by omega)
  replace hvr := hvr.wr hW28 (by omega)
  replace hE6 := Ext.wr' hE6 hW28 (by omega)
  replace hB6 := hB6.wr hW28 (by omega)
  replace hE5 := Ext.wr' hE5 hW28 (by omega)
  replace hB5 := hB5.wr hW28 (by omega)
  replace hE4 := Ext.wr' hE4 hW28 (by omega)
  replace hB4 := hB4.wr hW28 (by omega)
  replace hE0 := Ext.wr' hE0 hW28 (by omega)
  refine Seg.nil ?_
  refine At.then_ ?_
  refine Cd.seq ?_
  refine Cd.block ?_
  refine Cd.seq ?_
  refine Cd.region ?_
  refine Seg.step rfl rfl (Yd.move rfl) ?_
  refine Seg.step rfl rfl (Yd.eql rfl rfl) ?_
  refine Seg.step rfl rfl (Yd.assign rfl) ?_
  refine Seg.nil ?_
  refine At.then_ ?_
  refine Cd.condk rfl (fun h40 => ?_) (fun h40 => ?_)
  · refine Cd.region ?_
    refine Seg.step rfl rfl (Yd.fieldAddr rfl rfl) ?_
    refine Seg.store1 rfl rfl rfl rfl rfl hB28 (by first | omega | (simp; done) | exact Nat.le_of_ble_eq_true rfl) (fun w44 hW44 hB44 => ?_)
    clear hB28
    replace hW28 := Wr.trans hW28 hW44
    replace hE27 := Ext.wr' hE27 hW44 (by omega)
    replace hB19 := hB19.wr hW44 (by omega)
    replace hE18 := Ext.wr' hE18 hW44 (by omega)
    replace hE14 := Ext.wr' hE14 hW44 (by omega)
    replace hvn := hvn.wr hW44 (by omega)
    replace hvr := hvr.wr hW44 (by omega)
    replace hE6 := Ext.wr' hE6 hW44 (by omega)
    replace hB6 := hB6.wr hW44 (by omega)
    replace hE5 := Ext.wr' hE5 hW44 (by omega)
    replace hB5 := hB5.wr hW44 (by omega)
    replace hE4 := Ext.wr' hE4 hW44 (by omega)
    replace hB4 := hB4.wr hW44 (by omega)
    replace hE0 := Ext.wr' hE0 hW44 (by omega)
    refine Seg.nil ?_
    refine At.blk ?_
    refine At.then_ ?_
    refine Cd.seq ?_
    refine Cd.region ?_
    refine Seg.step rfl rfl (Yd.loadN rfl rfl rfl hB44.row) ?_
    refine Seg.storeN rfl rfl rfl rfl hB6 rfl (by first | assumption | exact List.all_eq_true.1 rfl) (fun w51 hW51 hB51 => ?_)
    clear hB6
    replace hB44 := hB44.wr hW51 (by omega)
    replace hB19 := hB19.wr hW51 (by omega)
    replace hE6 := Ext.wr' hE6 hW51 (by omega)
    replace hE5 := Ext.wr' hE5 hW51 (by omega)
    replace hB5 := hB5.wr hW51 (by omega)
    replace hE4 := Ext.wr' hE4 hW51 (by omega)
    replace hB4 := hB4.wr hW51 (by omega)
    replace hE0 := Ext.wr' hE0 hW51 (by omega)
    refine Seg.nil ?_
    refine At.then_ ?_
    refine Cd.ret ?_
    exact At.ret Try.results19 (.cell rfl (run_loadVarN rfl rfl (by assumption : Bx _ b6 _).row) .nil) ⟨congrArg (fun x => Value.agg (Value.int .i64 x :: msgV h (.slice av rs.length cv)).toArray) (verd0 (by assumption)).symm, hE0⟩
  · refine Cd.seq ?_
    refine Cd.region ?_
    refine Seg.step rfl rfl (Yd.move rfl) ?_
    refine Seg.step rfl rfl (Yd.eql rfl rfl) ?_
    refine Seg.step rfl rfl (Yd.assign rfl) ?_
    refine Seg.nil ?_
    refine At.then_ ?_
    refine Cd.condk rfl (fun h64 => ?_) (fun h64 => ?_)
    · refine Cd.region ?_
      refine Seg.step rfl rfl (Yd.fieldAddr rfl rfl) ?_
      refine Seg.store1 rfl rfl rfl rfl rfl hB28 (by first | omega | (simp; done) | exact Nat.le_of_ble_eq_true rfl) (fun w68 hW68 hB68 => ?_)
      clear hB28
      replace hW28 := Wr.trans hW28 hW68
      replace hE27 := Ext.wr' hE27 hW68 (by omega)
      replace hB19 := hB19.wr hW68 (by omega)
      replace hE18 := Ext.wr' hE18 hW68 (by omega)
      replace hE14 := Ext.wr' hE14 hW68 (by omega)
      replace hvn := hvn.wr hW68 (by omega)
      replace hvr := hvr.wr hW68 (by omega)
      replace hE6 := Ext.wr' hE6 hW68 (by omega)
      replace hB6 := hB6.wr hW68 (by omega)
      replace hE5 := Ext.wr' hE5 hW68 (by omega)
      replace hB5 := hB5.wr hW68 (by omega)
      replace hE4 := Ext.wr' hE4 hW68 (by omega)
      replace hB4 := hB4.wr hW68 (by omega)
      replace hE0 := Ext.wr' hE0 hW68 (by omega)
      refine Seg.nil ?_
      refine At.blk ?_
      refine At.then_ ?_
      refine Cd.seq ?_
      refine Cd.region ?_
      refine Seg.step rfl rfl (Yd.loadN rfl rfl rfl hB68.row) ?_
      refine Seg.storeN rfl rfl rfl rfl hB6 rfl (by first | assumption | exact List.all_eq_true.1 rfl) (fun w75 hW75 hB75 => ?_)
      clear hB6
      replace hB68 := hB68.wr hW75 (by omega)
      replace hB19 := hB19.wr hW75 (by omega)
      replace hE6 := Ext.wr' hE6 hW75 (by omega)
      replace hE5 := Ext.wr' hE5 hW75 (by omega)
      replace hB5 := hB5.wr hW75 (by omega)
      replace hE4 := Ext.wr' hE4 hW75 (by omega)
      replace hB4 := hB4.wr hW75 (by omega)
      replace hE0 := Ext.wr' hE0 hW75 (by omega)
      refine Seg.nil ?_
      refine At.then_ ?_
      refine Cd.ret ?_
      exact At.ret Try.results19 (.cell rfl (run_loadVarN rfl rfl (by assumption : Bx _ b6 _).row) .nil) ⟨congrArg (fun x => Value.agg (Value.int .i64 x :: msgV h (.slice av rs.length cv)).toArray) (verd1 (by assumption) (by assumption)).symm, hE0⟩
    · refine Cd.seq ?_
      refine Cd.region ?_
      refine Seg.step rfl rfl (Yd.fieldAddr rfl rfl) ?_
      refine Seg.step rfl rfl (Yd.fieldAddr' rfl rfl) ?_
      refine Seg.step rfl rfl (Yd.load1 rfl rfl (hB5.row _ _ rfl)) ?_
      refine Seg.step rfl rfl (Yd.eql rfl rfl) ?_
      refine Seg.step rfl rfl (Yd.assign rfl) ?_
      refine Seg.nil ?_
      refine At.then_ ?_
      refine Cd.condk rfl (fun h90 => ?_) (fun h90 => ?_)
      · refine Cd.region ?_
        refine Seg.step rfl rfl (Yd.fieldAddr rfl rfl) ?_
        refine Seg.store1 rfl rfl rfl rfl rfl hB28 (by first | omega | (simp; done) | exact Nat.le_of_ble_eq_true rfl) (fun w94 hW94 hB94 => ?_)
        clear hB28
        replace hW28 := Wr.trans hW28 hW94
        replace hE27 := Ext.wr' hE27 hW94 (by omega)
        replace hB19 := hB19.wr hW94 (by omega)
        replace hE18 := Ext.wr' hE18 hW94 (by omega)
        replace hE14 := Ext.wr' hE14 hW94 (by omega)
        replace hvn := hvn.wr hW94 (by omega)
        replace hvr := hvr.wr hW94 (by omega)
        replace hE6 := Ext.wr' hE6 hW94 (by omega)
        replace hB6 := hB6.wr hW94 (by omega)
        replace hE5 := Ext.wr' hE5 hW94 (by omega)
        replace hB5 := hB5.wr hW94 (by omega)
        replace hE4 := Ext.wr' hE4 hW94 (by omega)
        replace hB4 := hB4.wr hW94 (by omega)
        replace hE0 := Ext.wr' hE0 hW94 (by omega)
        refine Seg.nil ?_
        refine At.blk ?_
        refine At.then_ ?_
        refine Cd.seq ?_
        refine Cd.region ?_
        refine Seg.step rfl rfl (Yd.loadN rfl rfl rfl hB94.row) ?_
        refine Seg.storeN rfl rfl rfl rfl hB6 rfl (by first | assumption | exact List.all_eq_true.1 rfl) (fun w101 hW101 hB101 => ?_)
        clear hB6
        replace hB94 := hB94.wr hW101 (by omega)
        replace hB19 := hB19.wr hW101 (by omega)
        replace hE6 := Ext.wr' hE6 hW101 (by omega)
        replace hE5 := Ext.wr' hE5 hW101 (by omega)
        replace hB5 := hB5.wr hW101 (by omega)
        replace hE4 := Ext.wr' hE4 hW101 (by omega)
        replace hB4 := hB4.wr hW101 (by omega)
        replace hE0 := Ext.wr' hE0 hW101 (by omega)
        refine Seg.nil ?_
        refine At.then_ ?_
        refine Cd.ret ?_
        exact At.ret Try.results19 (.cell rfl (run_loadVarN rfl rfl (by assumption : Bx _ b6 _).row) .nil) ⟨congrArg (fun x => Value.agg (Value.int .i64 x :: msgV h (.slice av rs.length cv)).toArray) (verd2 (by assumption) (by assumption) (by assumption)).symm, hE0⟩
      · refine Cd.skip ?_
        refine At.blk ?_
        refine At.then_ ?_
        refine Cd.seq ?_
        refine Cd.region ?_
        refine Seg.step rfl rfl (Yd.loadN rfl rfl rfl hB28.row) ?_
        refine Seg.storeN rfl rfl rfl rfl hB6 rfl (by first | assumption | exact List.all_eq_true.1 rfl) (fun w113 hW113 hB113 => ?_)
        clear hB6
        replace hB28 := hB28.wr hW113 (by omega)
        replace hB19 := hB19.wr hW113 (by omega)
        replace hE6 := Ext.wr' hE6 hW113 (by omega)
        replace hE5 := Ext.wr' hE5 hW113 (by omega)
        replace hB5 := hB5.wr hW113 (by omega)
        replace hE4 := Ext.wr' hE4 hW113 (by omega)
        replace hB4 := hB4.wr hW113 (by omega)
        replace hE0 := Ext.wr' hE0 hW113 (by omega)
        refine Seg.nil ?_
        refine At.then_ ?_
        refine Cd.ret ?_
        exact At.ret Try.results19 (.cell rfl (run_loadVarN rfl rfl (by assumption : Bx _ b6 _).row) .nil) ⟨congrArg (fun x => Value.agg (Value.int .i64 x :: msgV h (.slice av rs.length cv)).toArray) (verd3 (by assumption) (by assumption) (by assumption)).symm, hE0⟩
theorem verd_ok {e rc : Int} : verd e rc = 1 ↔ e = 0 := by
  unfold verd
  split
  · simp [*]
  · split
    · simp [*]
    · split <;> simp [*]
set_option maxHeartbeats 400000 in
theorem law27b (h : Hd) (rs : List Rec) (qn : Name) (vq : Value) (av : Option Addr) (cv : Nat) (qt qc : Int) (w : World) (h0 : RecsAt w (.slice av rs.length cv) rs) (h1 : NameAt w vq qn) (hh : ∀ r ∈ rs, HeldR r) (hq : Held qn) (hwh : WfH h) (hwr : ∀ r ∈ rs, WfR r) :
    Ret Try.prog 6 #[.agg #[vq, .int .i64 qt, .int .i64 qc], .agg h.cells.toArray, .slice av rs.length cv] w fun v w' => v = .bool true ∧ Ext w w' := by
  have hE0 := Ext.refl w
  have hinq : Keep (NameAt w vq qn) := h1
  have hin0 : RecsAt w (.slice av rs.length cv) rs ∧ True := ⟨h0, trivial⟩
  refine Ret.body Try.func6 rfl Try.ntmps6 rfl ?_
  refine Cd.seq ?_
  refine Cd.region ?_
  refine Seg.box rfl rfl rfl (fun w4 b4 hE4 hB4 hb4 => ?_)
  have hlt4_0 := Nat.le_trans hE0.size hb4
  replace h0 := h0.ext hE4
  replace hE0 := Ext.trans hE0 hE4
  refine Seg.box rfl rfl rfl (fun w5 b5 hE5 hB5 hb5 => ?_)
  have hlt5_0 := Nat.le_trans hE4.size hb5
  have hlt5_1 := Nat.lt_of_lt_of_le hB4.lt hb5
  have hlt5_2 := Nat.le_trans hE0.size hb5
  replace hE4 := Ext.trans hE4 hE5
  replace hB4 := hB4.ext hE5
  replace h0 := h0.ext hE5
  replace hE0 := Ext.trans hE0 hE5
  refine Seg.step rfl rfl (Yd.assign rfl) ?_
  refine Seg.nil ?_
  refine At.then_ ?_
  refine Cd.seq ?_
  refine Cd.seq ?_
  refine Cd.region ?_
  refine Seg.step rfl rfl (Yd.move rfl) ?_
  (refine Seg.call rfl rfl (own_of rfl) rfl (small26 rs _ _ h0 hh) ?_; rintro _ w13 ⟨⟨b1, rfl, k1⟩, hE13⟩)
  replace hE5 := Ext.trans hE5 hE13
  replace hB5 := hB5.ext hE13
  replace hE4 := Ext.trans hE4 hE13
  replace hB4 := hB4.ext hE13
  replace h0 := h0.ext hE13
  replace hE0 := Ext.trans hE0 hE13
  refine Seg.step rfl rfl (Yd.not rfl) ?_
  refine Seg.step rfl rfl (Yd.move rfl) ?_
  refine Seg.gsplit rfl rfl (fun h16 => ?_) (fun h16 => ?_)
  · refine Seg.skip rfl rfl ?_
    refine Seg.skip rfl rfl ?_
    refine Seg.skip rfl rfl ?_
    refine Seg.skip rfl rfl ?_
    refine Seg.step rfl rfl (Yd.pickT rfl rfl) ?_
    refine Seg.nil ?_
    refine At.then_ ?_
    refine Cd.condT rfl ?_
    refine Cd.seq ?_
    refine Cd.region ?_
    (refine Seg.call rfl rfl (own_of rfl) rfl (works27 _) ?_; rintro _ w28 ⟨rfl, hE28⟩)
    replace hE13 := Ext.trans hE13 hE28
    replace hE5 := Ext.trans hE5 hE28
    replace hB5 := hB5.ext hE28
    replace hE4 := Ext.trans hE4 hE28
    replace hB4 := hB4.ext hE28
    replace h0 := h0.ext hE28
    replace hE0 := Ext.trans hE0 hE28
    refine Seg.step rfl rfl (Yd.assign rfl) ?_
    refine Seg.nil ?_
    refine At.then_ ?_
    refine Cd.ret ?_
    refine At.then_ret ?_
    exact At.ret Try.results6 (.tmp rfl .nil) ⟨rfl, hE0⟩
  refine Seg.step rfl rfl (Yd.fieldAddr rfl rfl) ?_
  refine Seg.step rfl rfl (Yd.load1 rfl rfl (hB4.row _ _ rfl)) ?_
  (refine Seg.call rfl rfl (own_of rfl) rfl (few_any qn vq _ ((show NameAt w vq qn from hinq).ext hE0) hq) ?_; rintro _ w38 ⟨⟨b2, rfl, k2⟩, hE38⟩)
  replace hE13 := Ext.trans hE13 hE38
  replace hE5 := Ext.trans hE5 hE38
  replace hB5 := hB5.ext hE38
  replace hE4 := Ext.trans hE4 hE38
  replace hB4 := hB4.ext hE38
  replace h0 := h0.ext hE38
  replace hE0 := Ext.trans hE0 hE38
  refine Seg.step rfl rfl (Yd.not rfl) ?_
  refine Seg.step rfl rfl (Yd.pickF rfl rfl) ?_
  refine Seg.nil ?_
  refine At.then_ ?_
  refine Cd.condkb rfl (fun h43 => ?_) (fun h43 => ?_)
  · refine Cd.seq ?_
    refine Cd.region ?_
    (refine Seg.call rfl rfl (own_of rfl) rfl (works27 _) ?_; rintro _ w47 ⟨rfl, hE47⟩)
    replace hE38 := Ext.trans hE38 hE47
    replace hE13 := Ext.trans hE13 hE47
    replace hE5 := Ext.trans hE5 hE47
    replace hB5 := hB5.ext hE47
    replace hE4 := Ext.trans hE4 hE47
    replace hB4 := hB4.ext hE47
    replace h0 := h0.ext hE47
    replace hE0 := Ext.trans hE0 hE47
    refine Seg.step rfl rfl (Yd.assign rfl) ?_
    refine Seg.nil ?_
    refine At.then_ ?_
    refine Cd.ret ?_
    refine At.then_ret ?_
    exact At.ret Try.results6 (.tmp rfl .nil) ⟨rfl, hE0⟩
  refine Cd.skip ?_
  refine At.then_ ?_
  refine Cd.seq ?_
  refine Cd.region ?_
  refine Seg.step rfl rfl (Yd.loadN rfl rfl rfl hB5.row) ?_
  refine Seg.step rfl rfl (Yd.move rfl) ?_
  refine Seg.step rfl rfl (Yd.buildT (cs := _ :: _ :: _ :: _ :: _ :: _ :: _ :: _ :: _ :: _ :: _ :: _ :: _ :: _ :: []) 14 rfl rfl rfl rfl rfl) ?_
  refine Seg.alloc rfl rfl rfl (fun w62 b62 hE62 hB62 hb62 => ?_)
  have hlt62_0 := Nat.le_trans hE38.size hb62
  have hlt62_1 := Nat.le_trans hE13.size hb62
  have hlt62_2 := Nat.le_trans hE5.size hb62
  have hlt62_3 := Nat.lt_of_lt_of_le hB5.lt hb62
  have hlt62_4 := Nat.le_trans hE4.size hb62
  have hlt62_5 := Nat.lt_of_lt_of_le hB4.lt hb62
  have hlt62_6 := Nat.le_trans hE0.size hb62
  replace hE38 := Ext.trans hE38 hE62
  replace hE13 := Ext.trans hE13 hE62
  replace hE5 := Ext.trans hE5 hE62
  replace hB5 := hB5.ext hE62
  replace hE4 := Ext.trans hE4 hE62
  replace hB4 := hB4.ext hE62
  replace h0 := h0.ext hE62
  replace hE0 := Ext.trans hE0 hE62
  refine Seg.storeN rfl rfl rfl rfl hB62 rfl (by first | assumption | exact List.all_eq_true.1 rfl) (fun w63 hW63 hB63 => ?_)
  clear hB62
  replace hE62 := Ext.wr' hE62 hW63 (by omega)
  replace hE38 := Ext.wr' hE38 hW63 (by omega)
  replace hE13 := Ext.wr' hE13 hW63 (by omega)
  replace hE5 := Ext.wr' hE5 hW63 (by omega)
  replace hB5 := hB5.wr hW63 (by omega)
  replace hE4 := Ext.wr' hE4 hW63 (by omega)
  replace hB4 := hB4.wr hW63 (by omega)
  replace hE0 := Ext.wr' hE0 hW63 (by omega)
  refine Seg.nil ?_
  refine At.then_ ?_
  refine Cd.seq ?_
  refine Cd.region ?_
  refine Seg.step rfl rfl (Yd.loadN rfl rfl rfl hB4.row) ?_
  refine Seg.step rfl rfl (Yd.loadN rfl rfl rfl hB63.row) ?_
  obtain ⟨hl, hf⟩ := k1 (by simpa using h16)
  have hfq := k2 (by simpa using h43)
  have hl' : rs.length ≤ 1000 := by omega
  have hrw : ∀ (w' : World), Ext w w' → RecsAt w' (.slice av rs.length cv) rs := fun w' hE => hin0.1.ext hE
  obtain ⟨o, ho⟩ : ∃ o, folR qt qc rs qn = o := ⟨_, rfl⟩
  have hF := fol_fine (qt := qt) (qc := qc) (rs := rs) (n := qn)
  rw [ho] at hF
  have hiff : (decide (verd o.e h.rc = 1) == decide (0 < (o.rs.length : Int))) = true := by
    have h1 : verd o.e h.rc = 1 ↔ 0 < (o.rs.length : Int) := by
      rw [verd_ok]
      rcases hF with ⟨h1, h2⟩ | ⟨⟨h1, h2⟩ | ⟨h1, h2⟩, _⟩
      · rw [h2]; simp
      · have := List.length_pos_iff.2 h2; omega
      · rw [h1, h2]; simp
    simp [h1]
  clear h0
  (refine Seg.call rfl rfl (own_of rfl) rfl (final_any h rs qn vq av cv qt qc _ (hrw _ hE0) ((show NameAt w vq qn from hinq).ext hE0) hf hfq hl') ?_; (rw [ho]); rintro _ w64 ⟨rfl, hE64⟩)
  replace hW63 := Wr.trans hW63 (Ext.wr hE64 _)
  replace hB63 := hB63.ext hE64
  replace hE62 := Ext.trans hE62 hE64
  replace hE38 := Ext.trans hE38 hE64
  replace hE13 := Ext.trans hE13 hE64
  replace hE5 := Ext.trans hE5 hE64
  replace hB5 := hB5.ext hE64
  replace hE4 := Ext.trans hE4 hE64
  replace hB4 := hB4.ext hE64
  replace hE0 := Ext.trans hE0 hE64
  refine Seg.alloc rfl rfl rfl (fun w65 b65 hE65 hB65 hb65 => ?_)
  have hlt65_0 := Nat.le_trans hE64.size hb65
  have hlt65_1 := Nat.lt_of_lt_of_le hB63.lt hb65
  have hlt65_2 := Nat.le_trans hE62.size hb65
  have hlt65_3 := Nat.le_trans hE38.size hb65
  have hlt65_4 := Nat.le_trans hE13.size hb65
  have hlt65_5 := Nat.le_trans hE5.size hb65
  have hlt65_6 := Nat.lt_of_lt_of_le hB5.lt hb65
  have hlt65_7 := Nat.le_trans hE4.size hb65
  have hlt65_8 := Nat.lt_of_lt_of_le hB4.lt hb65
  have hlt65_9 := Nat.le_trans hE0.size hb65
  replace hE64 := Ext.trans hE64 hE65
  replace hW63 := Wr.trans hW63 (Ext.wr hE65 _)
  replace hB63 := hB63.ext hE65
  replace hE62 := Ext.trans hE62 hE65
  replace hE38 := Ext.trans hE38 hE65
  replace hE13 := Ext.trans hE13 hE65
  replace hE5 := Ext.trans hE5 hE65
  replace hB5 := hB5.ext hE65
  replace hE4 := Ext.trans hE4 hE65
  replace hB4 := hB4.ext hE65
  replace hE0 := Ext.trans hE0 hE65
  refine Seg.storeN rfl rfl rfl rfl hB65 rfl (by first | assumption | exact List.all_eq_true.1 rfl) (fun w66 hW66 hB66 => ?_)
  clear hB65
  replace hE65 := Ext.wr' hE65 hW66 (by omega)
  replace hE64 := Ext.wr' hE64 hW66 (by omega)
  replace hB63 := hB63.wr hW66 (by omega)
  replace hE62 := Ext.wr' hE62 hW66 (by omega)
  replace hE38 := Ext.wr' hE38 hW66 (by omega)
  replace hE13 := Ext.wr' hE13 hW66 (by omega)
  replace hE5 := Ext.wr' hE5 hW66 (by omega)
  replace hB5 := hB5.wr hW66 (by omega)
  replace hE4 := Ext.wr' hE4 hW66 (by omega)
  replace hB4 := hB4.wr hW66 (by omega)
  replace hE0 := Ext.wr' hE0 hW66 (by omega)
  refine Seg.nil ?_
  refine At.then_ ?_
  refine Cd.seq ?_
  refine Cd.region ?_
  refine Seg.step rfl rfl (Yd.loadN rfl rfl rfl hB4.row) ?_
  refine Seg.step rfl rfl (Yd.move rfl) ?_
  (refine Seg.call rfl rfl (own_of rfl) rfl (refFollow_any rs qn vq _ qt qc _ (hrw _ hE0) ((show NameAt w vq qn from hinq).ext hE0) hf hfq hl' o ho) ?_; rintro _ w73 ⟨⟨al, nl, cl, ar, cr, tt, ll, rfl⟩, hE73⟩)
  replace hW66 := Wr.trans hW66 (Ext.wr hE73 _)
  replace hB66 := hB66.ext hE73
  replace hE65 := Ext.trans hE65 hE73
  replace hE64 := Ext.trans hE64 hE73
  replace hB63 := hB63.ext hE73
  replace hE62 := Ext.trans hE62 hE73
  replace hE38 := Ext.trans hE38 hE73
  replace hE13 := Ext.trans hE13 hE73
  replace hE5 := Ext.trans hE5 hE73
  replace hB5 := hB5.ext hE73
  replace hE4 := Ext.trans hE4 hE73
  replace hB4 := hB4.ext hE73
  replace hE0 := Ext.trans hE0 hE73
  refine Seg.step rfl rfl (Yd.move rfl) ?_
  refine Seg.step rfl rfl (Yd.extract rfl rfl) ?_
  refine Seg.step rfl rfl (Yd.extract rfl rfl) ?_
  refine Seg.alloc rfl rfl rfl (fun w77 b77 hE77 hB77 hb77 => ?_)
  have hlt77_0 := Nat.le_trans hE73.size hb77
  have hlt77_1 := Nat.lt_of_lt_of_le hB66.lt hb77
  have hlt77_2 := Nat.le_trans hE65.size hb77
  have hlt77_3 := Nat.le_trans hE64.size hb77
  have hlt77_4 := Nat.lt_of_lt_of_le hB63.lt hb77
  have hlt77_5 := Nat.le_trans hE62.size hb77
  have hlt77_6 := Nat.le_trans hE38.size hb77
  have hlt77_7 := Nat.le_trans hE13.size hb77
  have hlt77_8 := Nat.le_trans hE5.size hb77
  have hlt77_9 := Nat.lt_of_lt_of_le hB5.lt hb77
  have hlt77_10 := Nat.le_trans hE4.size hb77
  have hlt77_11 := Nat.lt_of_lt_of_le hB4.lt hb77
  have hlt77_12 := Nat.le_trans hE0.size hb77
  replace hE73 := Ext.trans hE73 hE77
  replace hW66 := Wr.trans hW66 (Ext.wr hE77 _)
  replace hB66 := hB66.ext hE77
  replace hE65 := Ext.trans hE65 hE77
  replace hE64 := Ext.trans hE64 hE77
  replace hB63 := hB63.ext hE77
  replace hE62 := Ext.trans hE62 hE77
  replace hE38 := Ext.trans hE38 hE77
  replace hE13 := Ext.trans hE13 hE77
  replace hE5 := Ext.trans hE5 hE77
  replace hB5 := hB5.ext hE77
  replace hE4 := Ext.trans hE4 hE77
  replace hB4 := hB4.ext hE77
  replace hE0 := Ext.trans hE0 hE77
  refine Seg.storeN rfl rfl rfl rfl hB77 rfl (by first | assumption | exact List.all_eq_true.1 rfl) (fun w78 hW78 hB78 => ?_)
  clear hB77
  replace hE77 := Ext.wr' hE77 hW78 (by omega)
  replace hE73 := Ext.wr' hE73 hW78 (by omega)
  replace hB66 := hB66.wr hW78 (by omega)
  replace hE65 := Ext.wr' hE65 hW78 (by omega)
  replace hE64 := Ext.wr' hE64 hW78 (by omega)
  replace hB63 := hB63.wr hW78 (by omega)
  replace hE62 := Ext.wr' hE62 hW78 (by omega)
  replace hE38 := Ext.wr' hE38 hW78 (by omega)
  replace hE13 := Ext.wr' hE13 hW78 (by omega)
  replace hE5 := Ext.wr' hE5 hW78 (by omega)
  replace hB5 := hB5.wr hW78 (by omega)
  replace hE4 := Ext.wr' hE4 hW78 (by omega)
  replace hB4 := hB4.wr hW78 (by omega)
  replace hE0 := Ext.wr' hE0 hW78 (by omega)
  refine Seg.step rfl rfl (Yd.assign rfl) ?_
  refine Seg.nil ?_
  refine At.then_ ?_
  refine Cd.seq ?_
  refine Cd.held 26 (by kernel_rfl) (fun w83 hE83 => ?_)
  replace hW78 := Wr.trans hW78 (Ext.wr hE83 _)
  replace hB78 := hB78.ext hE83
  replace hE77 := Ext.trans hE77 hE83
  replace hE73 := Ext.trans hE73 hE83
  replace hB66 := hB66.ext hE83
  replace hE65 := Ext.trans hE65 hE83
  replace hE64 := Ext.trans hE64 hE83
  replace hB63 := hB63.ext hE83
  replace hE62 := Ext.trans hE62 hE83
  replace hE38 := Ext.trans hE38 hE83
  replace hE13 := Ext.trans hE13 hE83
  replace hE5 := Ext.trans hE5 hE83
  replace hB5 := hB5.ext hE83
  replace hE4 := Ext.trans hE4 hE83
  replace hB4 := hB4.ext hE83
  replace hE0 := Ext.trans hE0 hE83
  refine SegG.oneSeg (o := ⟨_, _, _, _, _, _⟩) 0 rfl (by kernel_rfl) ?_
  (refine Seg.call rfl rfl (own_of rfl) rfl (works27 _) ?_; rintro _ w85 ⟨rfl, hE85⟩)
  replace hE83 := Ext.trans hE83 hE85
  replace hW78 := Wr.trans hW78 (Ext.wr hE85 _)
  replace hB78 := hB78.ext hE85
  replace hE77 := Ext.trans hE77 hE85
  replace hE73 := Ext.trans hE73 hE85
  replace hB66 := hB66.ext hE85
  replace hE65 := Ext.trans hE65 hE85
  replace hE64 := Ext.trans hE64 hE85
  replace hB63 := hB63.ext hE85
  replace hE62 := Ext.trans hE62 hE85
  replace hE38 := Ext.trans hE38 hE85
  replace hE13 := Ext.trans hE13 hE85
  replace hE5 := Ext.trans hE5 hE85
  replace hB5 := hB5.ext hE85
  replace hE4 := Ext.trans hE4 hE85
  replace hB4 := hB4.ext hE85
  replace hE0 := Ext.trans hE0 hE85
  refine SegG.back rfl (by first | assumption | exact Ext.refl _) ?_
  refine SegG.take 1 rfl (by kernel_rfl) (by kernel_rfl) (by kernel_rfl) (by kernel_rfl) (by kernel_rfl) rfl rfl (fun w' hw' => Yd.move rfl) ?_
  refine SegG.take 2 rfl (by kernel_rfl) (by kernel_rfl) (by kernel_rfl) (by kernel_rfl) (by kernel_rfl) rfl rfl (fun w' hw' => Yd.fieldAddr rfl rfl) ?_
  refine SegG.take 3 rfl (by kernel_rfl) (by kernel_rfl) (by kernel_rfl) (by kernel_rfl) (by kernel_rfl) rfl rfl (fun w' hw' => Yd.load1 rfl rfl ((hB66.ext hw').row _ _ rfl)) ?_
  refine SegG.take 4 rfl (by kernel_rfl) (by kernel_rfl) (by kernel_rfl) (by kernel_rfl) (by kernel_rfl) rfl rfl (fun w' hw' => Yd.loadN rfl rfl rfl (hB4.ext hw').row) ?_
  refine SegG.take 5 rfl (by kernel_rfl) (by kernel_rfl) (by kernel_rfl) (by kernel_rfl) (by kernel_rfl) rfl rfl (fun w' hw' => Yd.loadN rfl rfl rfl (hB63.ext hw').row) ?_
  refine SegG.oneSeg (o := ⟨_, _, _, _, _, _⟩) 6 rfl (by kernel_rfl) ?_
  (refine Seg.call rfl rfl (own_of rfl) rfl (refFinal_any h rs qn vq av cv qt qc _ (hrw _ hE0) ((show NameAt w vq qn from hinq).ext hE0) hf hfq hl') ?_; (rw [ho]); rintro _ w93 ⟨rfl, hE93⟩)
  replace hE85 := Ext.trans hE85 hE93
  replace hE83 := Ext.trans hE83 hE93
  replace hW78 := Wr.trans hW78 (Ext.wr hE93 _)
  replace hB78 := hB78.ext hE93
  replace hE77 := Ext.trans hE77 hE93
  replace hE73 := Ext.trans hE73 hE93
  replace hB66 := hB66.ext hE93
  replace hE65 := Ext.trans hE65 hE93
  replace hE64 := Ext.trans hE64 hE93
  replace hB63 := hB63.ext hE93
  replace hE62 := Ext.trans hE62 hE93
  replace hE38 := Ext.trans hE38 hE93
  replace hE13 := Ext.trans hE13 hE93
  replace hE5 := Ext.trans hE5 hE93
  replace hB5 := hB5.ext hE93
  replace hE4 := Ext.trans hE4 hE93
  replace hB4 := hB4.ext hE93
  replace hE0 := Ext.trans hE0 hE93
  refine SegG.back rfl (by first | assumption | exact Ext.refl _) ?_
  refine SegG.take 7 rfl (by kernel_rfl) (by kernel_rfl) (by kernel_rfl) (by kernel_rfl) (by kernel_rfl) rfl rfl (fun w' hw' => Yd.eql rfl rfl) ?_
  refine SegG.take 8 rfl (by kernel_rfl) (by kernel_rfl) (by kernel_rfl) (by kernel_rfl) (by kernel_rfl) rfl rfl (fun w' hw' => Yd.pickT rfl rfl) ?_
  refine SegG.take 9 rfl (by kernel_rfl) (by kernel_rfl) (by kernel_rfl) (by kernel_rfl) (by kernel_rfl) rfl rfl (fun w' hw' => Yd.move rfl) ?_
  refine SegG.gsplitp 10 rfl rfl rfl (fun h98 => ?_) (fun h98 => ?_)
  · refine SegG.take 10 rfl (by kernel_rfl) (by kernel_rfl) (by kernel_rfl) (by kernel_rfl) (by kernel_rfl) rfl rfl (fun w' hw' => Yd.fieldAddr rfl rfl) ?_
    refine SegG.take 11 rfl (by kernel_rfl) (by kernel_rfl) (by kernel_rfl) (by kernel_rfl) (by kernel_rfl) rfl rfl (fun w' hw' => Yd.loadN rfl rfl rfl ((show Row _ (Addr.add ⟨b65, 0, none⟩ 1) (msgV h (.slice av rs.length cv)) from hB66.row.part 1 14).ext hw')) ?_
    refine SegG.take 12 rfl (by kernel_rfl) (by kernel_rfl) (by kernel_rfl) (by kernel_rfl) (by kernel_rfl) rfl rfl (fun w' hw' => Yd.loadN rfl rfl rfl (hB63.ext hw').row) ?_
    refine SegG.oneSeg (o := ⟨_, _, _, _, _, _⟩) 13 rfl (by kernel_rfl) ?_
    (refine Seg.call rfl rfl (own_of rfl) rfl (same14 h rs av cv _ (hrw _ hE0) hwh hf hwr hl') ?_; rintro _ w104 ⟨rfl, hE104⟩)
    replace hE93 := Ext.trans hE93 hE104
    replace hE85 := Ext.trans hE85 hE104
    replace hE83 := Ext.trans hE83 hE104
    replace hW78 := Wr.trans hW78 (Ext.wr hE104 _)
    replace hB78 := hB78.ext hE104
    replace hE77 := Ext.trans hE77 hE104
    replace hE73 := Ext.trans hE73 hE104
    replace hB66 := hB66.ext hE104
    replace hE65 := Ext.trans hE65 hE104
    replace hE64 := Ext.trans hE64 hE104
    replace hB63 := hB63.ext hE104
    replace hE62 := Ext.trans hE62 hE104
    replace hE38 := Ext.trans hE38 hE104
    replace hE13 := Ext.trans hE13 hE104
    replace hE5 := Ext.trans hE5 hE104
    replace hB5 := hB5.ext hE104
    replace hE4 := Ext.trans hE4 hE104
    replace hB4 := hB4.ext hE104
    replace hE0 := Ext.trans hE0 hE104
    refine SegG.back rfl (by first | assumption | exact Ext.refl _) ?_
    refine SegG.take 14 rfl (by kernel_rfl) (by kernel_rfl) (by kernel_rfl) (by kernel_rfl) (by kernel_rfl) rfl rfl (fun w' hw' => Yd.pickT rfl rfl) ?_
    refine SegG.take 15 rfl (by kernel_rfl) (by kernel_rfl) (by kernel_rfl) (by kernel_rfl) (by kernel_rfl) rfl rfl (fun w' hw' => Yd.move rfl) ?_
    refine SegG.take 16 rfl (by kernel_rfl) (by kernel_rfl) (by kernel_rfl) (by kernel_rfl) (by kernel_rfl) rfl rfl (fun w' hw' => Yd.fieldAddr rfl rfl) ?_
    refine SegG.take 17 rfl (by kernel_rfl) (by kernel_rfl) (by kernel_rfl) (by kernel_rfl) (by kernel_rfl) rfl rfl (fun w' hw' => Yd.load1 rfl rfl ((hB66.ext hw').row _ _ rfl)) ?_
    refine SegG.take 18 rfl (by kernel_rfl) (by kernel_rfl) (by kernel_rfl) (by kernel_rfl) (by kernel_rfl) rfl rfl (fun w' hw' => Yd.eql rfl rfl) ?_
    refine SegG.take 19 rfl (by kernel_rfl) (by kernel_rfl) (by kernel_rfl) (by kernel_rfl) (by kernel_rfl) rfl rfl (fun w' hw' => Yd.fieldAddr rfl rfl) ?_
    refine SegG.take 20 rfl (by kernel_rfl) (by kernel_rfl) (by kernel_rfl) (by kernel_rfl) (by kernel_rfl) rfl rfl (fun w' hw' => Yd.load1 rfl rfl ((hB78.ext hw').row _ _ rfl)) ?_
    refine SegG.take 21 rfl (by kernel_rfl) (by kernel_rfl) (by kernel_rfl) (by kernel_rfl) (by kernel_rfl) rfl rfl (fun w' hw' => Yd.lenS rfl rfl) ?_
    refine SegG.take 22 rfl (by kernel_rfl) (by kernel_rfl) (by kernel_rfl) (by kernel_rfl) (by kernel_rfl) rfl rfl (fun w' hw' => Yd.gtr rfl rfl) ?_
    refine SegG.take 23 rfl (by kernel_rfl) (by kernel_rfl) (by kernel_rfl) (by kernel_rfl) (by kernel_rfl) rfl rfl (fun w' hw' => Yd.eqlB rfl rfl rfl) ?_
    refine SegG.take 24 rfl (by kernel_rfl) (by kernel_rfl) (by kernel_rfl) (by kernel_rfl) (by kernel_rfl) rfl rfl (fun w' hw' => Yd.pickT rfl rfl) ?_
    refine SegG.take 25 rfl (by kernel_rfl) (by kernel_rfl) (by kernel_rfl) (by kernel_rfl) (by kernel_rfl) rfl rfl (fun w' hw' => Yd.assign rfl) ?_
    refine SegG.done (by kernel_rfl) ?_
    refine At.then_ ?_
    refine Cd.ret ?_
    exact At.ret Try.results6 (.tmp rfl .nil) ⟨congrArg Value.bool hiff, hE0⟩
  · exfalso; omega
end Go.Proofs.Ytidhelgoopdloaa
