/- Addresses: what is wrong with them, and how many bits they have. -/
import Derived.Test.YtdomaooegpeneaaEle
import Derived.Test.YtdomaooegpeneaaWkq
import Derived.Test.YtdomaooegpeneaaWky
namespace Go.Proofs.Ytdomaooegpeneaa
open Go Go.RowKit
def W64 (i : Int) : Prop := (Lit.int .i64 i).wf = true
def W8 (i : Int) : Prop := (Lit.int .u8 i).wf = true
theorem W8.bd {i : Int} (h : W8 i) : 0 ≤ i ∧ i ≤ 255 := by
  have h' : (decide (0 ≤ i) && decide (i ≤ 255)) = true := h
  simpa using h'
def Adr.ip (a : Adr) : List Int := [a.i0, a.i1, a.i2, a.i3, a.i4, a.i5, a.i6, a.i7, a.i8, a.i9, a.i10, a.i11, a.i12, a.i13, a.i14, a.i15]
def WfA (a : Adr) : Prop := W64 a.fam ∧ W64 a.zone ∧ ∀ i ∈ a.ip, W8 i
def Adr.lits (a : Adr) : List Lit := [.int .i64 a.fam, .int .u8 a.i0, .int .u8 a.i1, .int .u8 a.i2, .int .u8 a.i3, .int .u8 a.i4, .int .u8 a.i5, .int .u8 a.i6, .int .u8 a.i7, .int .u8 a.i8, .int .u8 a.i9, .int .u8 a.i10, .int .u8 a.i11, .int .u8 a.i12, .int .u8 a.i13, .int .u8 a.i14, .int .u8 a.i15, .int .i64 a.zone]
/-- Nothing is wrong with an address. -/
def okA (a : Adr) : Prop := (a.fam = 4 ∧ (a.i4 = 0 ∧ a.i5 = 0 ∧ a.i6 = 0 ∧ a.i7 = 0 ∧ a.i8 = 0 ∧ a.i9 = 0 ∧ a.i10 = 0 ∧ a.i11 = 0 ∧ a.i12 = 0 ∧ a.i13 = 0 ∧ a.i14 = 0 ∧ a.i15 = 0) ∧ a.zone = 0) ∨ (a.fam = 6 ∧ 0 ≤ a.zone ∧ a.zone ≤ 2147483647)
def bitsOf (f : Int) : Int := if f = 4 then 32 else if f = 6 then 128 else 0
theorem bits24 (a : Adr) (w : World) : Ret Try.prog 24 #[.agg a.cells.toArray] w fun v w' => v = .int .i64 (bitsOf a.fam) ∧ Ext w w' := by
  have hE0 := Ext.refl w
  refine Ret.body Try.func24 rfl Try.ntmps24 rfl ?_
  by_cases h4 : a.fam = 4
  · have hb : Value.int .i64 (bitsOf a.fam) = .int .i64 32 := by simp [bitsOf, h4]
    refine Cd.seq ?_
    refine Cd.region ?_
    refine Seg.box rfl rfl rfl (fun w7 b7 hE7 hB7 hb7 => ?_)
    have hlt7_0 := Nat.le_trans hE0.size hb7
    replace hE0 := Ext.trans hE0 hE7
    refine Seg.step rfl rfl (Yd.assign rfl) ?_
    refine Seg.nil ?_
    refine At.then_ ?_
    refine Cd.seq ?_
    refine Cd.seq ?_
    refine Cd.region ?_
    refine Seg.step rfl rfl (Yd.fieldAddr rfl rfl) ?_
    refine Seg.step rfl rfl (Yd.load1 rfl rfl (hB7.row _ _ rfl)) ?_
    refine Seg.nil ?_
    refine At.then_ ?_
    refine Cd.block ?_
    refine Cd.seq ?_
    refine Cd.region ?_
    refine Seg.step rfl rfl (Yd.eql rfl rfl) ?_
    refine Seg.step rfl rfl (Yd.assign rfl) ?_
    refine Seg.nil ?_
    refine At.then_ ?_
    refine Cd.condk rfl (fun h25 => ?_) (fun h25 => ?_)
    · refine Cd.seq ?_
      refine Cd.region ?_
      refine Seg.step rfl rfl (Yd.assign rfl) ?_
      refine Seg.nil ?_
      refine At.then_ ?_
      refine Cd.ret ?_
      refine At.blk_ret ?_
      refine At.then_ret ?_
      exact At.ret Try.results24 (.tmp rfl .nil) ⟨hb.symm, by assumption⟩
    · exfalso; omega
  · by_cases h6 : a.fam = 6
    · have hb : Value.int .i64 (bitsOf a.fam) = .int .i64 128 := by simp [bitsOf, h6]
      refine Cd.seq ?_
      refine Cd.region ?_
      refine Seg.box rfl rfl rfl (fun w9 b9 hE9 hB9 hb9 => ?_)
      have hlt9_0 := Nat.le_trans hE0.size hb9
      replace hE0 := Ext.trans hE0 hE9
      refine Seg.step rfl rfl (Yd.assign rfl) ?_
      refine Seg.nil ?_
      refine At.then_ ?_
      refine Cd.seq ?_
      refine Cd.seq ?_
      refine Cd.region ?_
      refine Seg.step rfl rfl (Yd.fieldAddr rfl rfl) ?_
      refine Seg.step rfl rfl (Yd.load1 rfl rfl (hB9.row _ _ rfl)) ?_
      refine Seg.nil ?_
      refine At.then_ ?_
      refine Cd.block ?_
      refine Cd.seq ?_
      refine Cd.region ?_
      refine Seg.step rfl rfl (Yd.eql rfl rfl) ?_
      refine Seg.step rfl rfl (Yd.assign rfl) ?_
      refine Seg.nil ?_
      refine At.then_ ?_
      refine Cd.condk rfl (fun h27 => ?_) (fun h27 => ?_)
      · exfalso; omega
      · refine Cd.seq ?_
        refine Cd.region ?_
        refine Seg.step rfl rfl (Yd.eql rfl rfl) ?_
        refine Seg.step rfl rfl (Yd.assign rfl) ?_
        refine Seg.nil ?_
        refine At.then_ ?_
        refine Cd.condk rfl (fun h35 => ?_) (fun h35 => ?_)
        · refine Cd.seq ?_
          refine Cd.region ?_
          refine Seg.step rfl rfl (Yd.assign rfl) ?_
          refine Seg.nil ?_
          refine At.then_ ?_
          refine Cd.ret ?_
          refine At.blk_ret ?_
          refine At.then_ret ?_
          exact At.ret Try.results24 (.tmp rfl .nil) ⟨hb.symm, by assumption⟩
        · exfalso; omega
    · have hb : Value.int .i64 (bitsOf a.fam) = .int .i64 0 := by simp [bitsOf, h4, h6]
      refine Cd.seq ?_
      refine Cd.region ?_
      refine Seg.box rfl rfl rfl (fun w9 b9 hE9 hB9 hb9 => ?_)
      have hlt9_0 := Nat.le_trans hE0.size hb9
      replace hE0 := Ext.trans hE0 hE9
      refine Seg.step rfl rfl (Yd.assign rfl) ?_
      refine Seg.nil ?_
      refine At.then_ ?_
      refine Cd.seq ?_
      refine Cd.seq ?_
      refine Cd.region ?_
      refine Seg.step rfl rfl (Yd.fieldAddr rfl rfl) ?_
      refine Seg.step rfl rfl (Yd.load1 rfl rfl (hB9.row _ _ rfl)) ?_
      refine Seg.nil ?_
      refine At.then_ ?_
      refine Cd.block ?_
      refine Cd.seq ?_
      refine Cd.region ?_
      refine Seg.step rfl rfl (Yd.eql rfl rfl) ?_
      refine Seg.step rfl rfl (Yd.assign rfl) ?_
      refine Seg.nil ?_
      refine At.then_ ?_
      refine Cd.condk rfl (fun h27 => ?_) (fun h27 => ?_)
      · exfalso; omega
      · refine Cd.seq ?_
        refine Cd.region ?_
        refine Seg.step rfl rfl (Yd.eql rfl rfl) ?_
        refine Seg.step rfl rfl (Yd.assign rfl) ?_
        refine Seg.nil ?_
        refine At.then_ ?_
        refine Cd.condk rfl (fun h35 => ?_) (fun h35 => ?_)
        · exfalso; omega
        · refine Cd.skip ?_
          refine At.blk ?_
          refine At.then_ ?_
          refine Cd.seq ?_
          refine Cd.region ?_
          refine Seg.step rfl rfl (Yd.assign rfl) ?_
          refine Seg.nil ?_
          refine At.then_ ?_
          refine Cd.ret ?_
          exact At.ret Try.results24 (.tmp rfl .nil) ⟨hb.symm, by assumption⟩
theorem bits27 (a : Adr) (w : World) : Ret Try.prog 27 #[.agg a.cells.toArray] w fun v w' => v = .int .i64 (bitsOf a.fam) ∧ Ext w w' := by
  have hE0 := Ext.refl w
  refine Ret.body Try.func27 rfl Try.ntmps27 rfl ?_
  by_cases h4 : a.fam = 4
  · have hb : Value.int .i64 (bitsOf a.fam) = .int .i64 32 := by simp [bitsOf, h4]
    refine Cd.seq ?_
    refine Cd.region ?_
    refine Seg.box rfl rfl rfl (fun w7 b7 hE7 hB7 hb7 => ?_)
    have hlt7_0 := Nat.le_trans hE0.size hb7
    replace hE0 := Ext.trans hE0 hE7
    refine Seg.step rfl rfl (Yd.assign rfl) ?_
    refine Seg.nil ?_
    refine At.then_ ?_
    refine Cd.seq ?_
    refine Cd.seq ?_
    refine Cd.region ?_
    refine Seg.step rfl rfl (Yd.fieldAddr rfl rfl) ?_
    refine Seg.step rfl rfl (Yd.load1 rfl rfl (hB7.row _ _ rfl)) ?_
    refine Seg.step rfl rfl (Yd.eql rfl rfl) ?_
    refine Seg.nil ?_
    refine At.then_ ?_
    refine Cd.condk rfl (fun h19 => ?_) (fun h19 => ?_)
    · refine Cd.seq ?_
      refine Cd.region ?_
      refine Seg.step rfl rfl (Yd.assign rfl) ?_
      refine Seg.nil ?_
      refine At.then_ ?_
      refine Cd.ret ?_
      refine At.then_ret ?_
      exact At.ret Try.results27 (.tmp rfl .nil) ⟨hb.symm, by assumption⟩
    · exfalso; omega
  · by_cases h6 : a.fam = 6
    · have hb : Value.int .i64 (bitsOf a.fam) = .int .i64 128 := by simp [bitsOf, h6]
      refine Cd.seq ?_
      refine Cd.region ?_
      refine Seg.box rfl rfl rfl (fun w9 b9 hE9 hB9 hb9 => ?_)
      have hlt9_0 := Nat.le_trans hE0.size hb9
      replace hE0 := Ext.trans hE0 hE9
      refine Seg.step rfl rfl (Yd.assign rfl) ?_
      refine Seg.nil ?_
      refine At.then_ ?_
      refine Cd.seq ?_
      refine Cd.seq ?_
      refine Cd.region ?_
      refine Seg.step rfl rfl (Yd.fieldAddr rfl rfl) ?_
      refine Seg.step rfl rfl (Yd.load1 rfl rfl (hB9.row _ _ rfl)) ?_
      refine Seg.step rfl rfl (Yd.eql rfl rfl) ?_
      refine Seg.nil ?_
      refine At.then_ ?_
      refine Cd.condk rfl (fun h21 => ?_) (fun h21 => ?_)
      · exfalso; omega
      · refine Cd.skip ?_
        refine At.then_ ?_
        refine Cd.seq ?_
        refine Cd.seq ?_
        refine Cd.region ?_
        refine Seg.step rfl rfl (Yd.fieldAddr rfl rfl) ?_
        refine Seg.step rfl rfl (Yd.load1 rfl rfl (hB9.row _ _ rfl)) ?_
        refine Seg.step rfl rfl (Yd.eql rfl rfl) ?_
        refine Seg.nil ?_
        refine At.then_ ?_
        refine Cd.condk rfl (fun h33 => ?_) (fun h33 => ?_)
        · refine Cd.seq ?_
          refine Cd.region ?_
          refine Seg.step rfl rfl (Yd.assign rfl) ?_
          refine Seg.nil ?_
          refine At.then_ ?_
          refine Cd.ret ?_
          refine At.then_ret ?_
          exact At.ret Try.results27 (.tmp rfl .nil) ⟨hb.symm, by assumption⟩
        · exfalso; omega
    · have hb : Value.int .i64 (bitsOf a.fam) = .int .i64 0 := by simp [bitsOf, h4, h6]
      refine Cd.seq ?_
      refine Cd.region ?_
      refine Seg.box rfl rfl rfl (fun w9 b9 hE9 hB9 hb9 => ?_)
      have hlt9_0 := Nat.le_trans hE0.size hb9
      replace hE0 := Ext.trans hE0 hE9
      refine Seg.step rfl rfl (Yd.assign rfl) ?_
      refine Seg.nil ?_
      refine At.then_ ?_
      refine Cd.seq ?_
      refine Cd.seq ?_
      refine Cd.region ?_
      refine Seg.step rfl rfl (Yd.fieldAddr rfl rfl) ?_
      refine Seg.step rfl rfl (Yd.load1 rfl rfl (hB9.row _ _ rfl)) ?_
      refine Seg.step rfl rfl (Yd.eql rfl rfl) ?_
      refine Seg.nil ?_
      refine At.then_ ?_
      refine Cd.condk rfl (fun h21 => ?_) (fun h21 => ?_)
      · exfalso; omega
      · refine Cd.skip ?_
        refine At.then_ ?_
        refine Cd.seq ?_
        refine Cd.seq ?_
        refine Cd.region ?_
        refine Seg.step rfl rfl (Yd.fieldAddr rfl rfl) ?_
        refine Seg.step rfl rfl (Yd.load1 rfl rfl (hB9.row _ _ rfl)) ?_
        refine Seg.step rfl rfl (Yd.eql rfl rfl) ?_
        refine Seg.nil ?_
        refine At.then_ ?_
        refine Cd.condk rfl (fun h33 => ?_) (fun h33 => ?_)
        · exfalso; omega
        · refine Cd.skip ?_
          refine At.then_ ?_
          refine Cd.seq ?_
          refine Cd.region ?_
          refine Seg.step rfl rfl (Yd.assign rfl) ?_
          refine Seg.nil ?_
          refine At.then_ ?_
          refine Cd.ret ?_
          exact At.ret Try.results27 (.tmp rfl .nil) ⟨hb.symm, by assumption⟩
theorem of34 (a b c d : Int) (w : World) : Ret Try.prog 34 #[.int .u8 a, .int .u8 b, .int .u8 c, .int .u8 d] w fun v w' => v = .agg (Adr.cells ⟨4, a, b, c, d, 0, 0, 0, 0, 0, 0, 0, 0, 0, 0, 0, 0, 0⟩).toArray ∧ Ext w w' := by
  have hE0 := Ext.refl w
  refine Ret.body Try.func34 rfl Try.ntmps34 rfl ?_
  refine Cd.seq ?_
  refine Cd.region ?_
  refine Seg.alloc rfl rfl rfl (fun w3 b3 hE3 hB3 hb3 => ?_)
  have hlt3_0 := Nat.le_trans hE0.size hb3
  replace hE0 := Ext.trans hE0 hE3
  refine Seg.nil ?_
  refine At.then_ ?_
  refine Cd.seq ?_
  refine Cd.region ?_
  refine Seg.step rfl rfl (Yd.move rfl) ?_
  refine Seg.step rfl rfl (Yd.move rfl) ?_
  refine Seg.step rfl rfl (Yd.move rfl) ?_
  refine Seg.step rfl rfl (Yd.move rfl) ?_
  refine Seg.step rfl rfl (Yd.buildArrT (cs := _ :: _ :: _ :: _ :: _ :: _ :: _ :: _ :: _ :: _ :: _ :: _ :: _ :: _ :: _ :: _ :: []) 16 rfl rfl rfl rfl rfl) ?_
  refine Seg.step rfl rfl (Yd.buildT (cs := _ :: _ :: _ :: _ :: _ :: _ :: _ :: _ :: _ :: _ :: _ :: _ :: _ :: _ :: _ :: _ :: _ :: _ :: []) 18 rfl rfl rfl rfl rfl) ?_
  refine Seg.storeN rfl rfl rfl rfl hB3 rfl (by first | assumption | exact List.all_eq_true.1 rfl) (fun w14 hW14 hB14 => ?_)
  clear hB3
  replace hE3 := Ext.wr' hE3 hW14 (by omega)
  replace hE0 := Ext.wr' hE0 hW14 (by omega)
  refine Seg.nil ?_
  refine At.then_ ?_
  refine Cd.ret ?_
  exact At.ret Try.results34 (.cell rfl (run_loadVarN rfl rfl (by assumption : Bx _ b3 _).row) .nil) ⟨rfl, by assumption⟩
theorem first31 (a : Adr) (w : World) : Ret Try.prog 31 #[.agg a.cells.toArray] w fun v w' => v = .agg (Adr.cells ⟨4, a.i0, a.i1, a.i2, a.i3, 0, 0, 0, 0, 0, 0, 0, 0, 0, 0, 0, 0, 0⟩).toArray ∧ Ext w w' := by
  have hE0 := Ext.refl w
  refine Ret.body Try.func31 rfl Try.ntmps31 rfl ?_
  refine Cd.seq ?_
  refine Cd.region ?_
  refine Seg.box rfl rfl rfl (fun w3 b3 hE3 hB3 hb3 => ?_)
  have hlt3_0 := Nat.le_trans hE0.size hb3
  replace hE0 := Ext.trans hE0 hE3
  refine Seg.alloc rfl rfl rfl (fun w4 b4 hE4 hB4 hb4 => ?_)
  have hlt4_0 := Nat.le_trans hE3.size hb4
  have hlt4_1 := Nat.lt_of_lt_of_le hB3.lt hb4
  have hlt4_2 := Nat.le_trans hE0.size hb4
  replace hE3 := Ext.trans hE3 hE4
  replace hB3 := hB3.ext hE4
  replace hE0 := Ext.trans hE0 hE4
  refine Seg.nil ?_
  refine At.then_ ?_
  refine Cd.seq ?_
  refine Cd.region ?_
  refine Seg.step rfl rfl (Yd.fieldAddr rfl rfl) ?_
  refine Seg.step rfl rfl (Yd.indexArr1' rfl rfl rfl (NatOf.cast 0) (by omega)) ?_
  refine Seg.step rfl rfl (Yd.load1 rfl rfl (hB3.row _ _ rfl)) ?_
  refine Seg.step rfl rfl (Yd.fieldAddr rfl rfl) ?_
  refine Seg.step rfl rfl (Yd.indexArr1' rfl rfl rfl (NatOf.cast 1) (by omega)) ?_
  refine Seg.step rfl rfl (Yd.load1 rfl rfl (hB3.row _ _ rfl)) ?_
  refine Seg.step rfl rfl (Yd.fieldAddr rfl rfl) ?_
  refine Seg.step rfl rfl (Yd.indexArr1' rfl rfl rfl (NatOf.cast 2) (by omega)) ?_
  refine Seg.step rfl rfl (Yd.load1 rfl rfl (hB3.row _ _ rfl)) ?_
  refine Seg.step rfl rfl (Yd.fieldAddr rfl rfl) ?_
  refine Seg.step rfl rfl (Yd.indexArr1' rfl rfl rfl (NatOf.cast 3) (by omega)) ?_
  refine Seg.step rfl rfl (Yd.load1 rfl rfl (hB3.row _ _ rfl)) ?_
  (refine Seg.call rfl rfl (own_of rfl) rfl (of34 _ _ _ _ _) ?_; rintro _ w21 ⟨rfl, hE21⟩)
  replace hE4 := Ext.trans hE4 hE21
  replace hB4 := hB4.ext hE21
  replace hE3 := Ext.trans hE3 hE21
  replace hB3 := hB3.ext hE21
  replace hE0 := Ext.trans hE0 hE21
  refine Seg.storeN rfl rfl rfl rfl hB4 rfl (by first | assumption | exact List.all_eq_true.1 rfl) (fun w22 hW22 hB22 => ?_)
  clear hB4
  replace hE4 := Ext.wr' hE4 hW22 (by omega)
  replace hE3 := Ext.wr' hE3 hW22 (by omega)
  replace hB3 := hB3.wr hW22 (by omega)
  replace hE0 := Ext.wr' hE0 hW22 (by omega)
  refine Seg.nil ?_
  refine At.then_ ?_
  refine Cd.ret ?_
  exact At.ret Try.results31 (.cell rfl (run_loadVarN rfl rfl (by assumption : Bx _ b4 _).row) .nil) ⟨rfl, by assumption⟩
theorem adr_lits (a : Adr) (h : WfA a) : Try.prog.keyLits 3 26 a.cells = some a.lits := by
  obtain ⟨h1, h2, h3⟩ := h
  simp only [Adr.ip, List.mem_cons, List.not_mem_nil, or_false, forall_eq_or_imp, forall_eq] at h3
  unfold W64 at h1 h2
  unfold W8 at h3
  have e24 := cellsOf_run Try.sizeOf24
  have e26 := cellsOf_run Try.sizeOf26
  have e3 := cellsOf_run Try.sizeOf3
  have e5 := cellsOf_run Try.sizeOf5
  have e16 : List.range 16 = [0, 1, 2, 3, 4, 5, 6, 7, 8, 9, 10, 11, 12, 13, 14, 15] := rfl
  simp [e16, Program.keyLits, Try.underlying26, Try.underlying24, Try.underlying3, Try.underlying5, e24, e26, e3, e5, Adr.cells, Adr.lits, h1, h2, h3]
theorem adr_eq (a b : Adr) : a.lits = b.lits ↔ a = b := by
  cases a; cases b
  simp only [Adr.lits, List.cons.injEq, Lit.int.injEq, true_and, and_true, Adr.mk.injEq]
theorem ok4 {a : Adr} (h : a.fam = 4) : okA a ↔ a = ⟨4, a.i0, a.i1, a.i2, a.i3, 0, 0, 0, 0, 0, 0, 0, 0, 0, 0, 0, 0, 0⟩ := by
  cases a
  simp only at h
  subst h
  simp [okA, and_assoc]
theorem ok6 {a : Adr} (h : a.fam = 6) : okA a ↔ 0 ≤ a.zone ∧ a.zone ≤ 2147483647 := by simp [okA, h]
theorem okN {a : Adr} (h : a.fam ≠ 4) (h' : a.fam ≠ 6) : ¬ okA a := by simp [okA, h, h']
theorem wf4 {a : Adr} (h : WfA a) : WfA ⟨4, a.i0, a.i1, a.i2, a.i3, 0, 0, 0, 0, 0, 0, 0, 0, 0, 0, 0, 0, 0⟩ := by
  obtain ⟨h1, h2, h3⟩ := h
  refine ⟨rfl, rfl, ?_⟩
  simp only [Adr.ip, List.mem_cons, List.not_mem_nil, or_false, forall_eq_or_imp, forall_eq] at h3 ⊢
  exact ⟨h3.1, h3.2.1, h3.2.2.1, h3.2.2.2.1, rfl, rfl, rfl, rfl, rfl, rfl, rfl, rfl, rfl, rfl, rfl, rfl⟩
noncomputable instance : DecidableEq Adr := fun a b => Classical.propDecidable _
theorem check23 (a : Adr) (w : World) (ha : WfA a) : Ret Try.prog 23 #[.agg a.cells.toArray] w fun v w' => (∃ e : Int, v = .int .i64 e ∧ (e = 0 ↔ okA a)) ∧ Ext w w' := by
  have hE0 := Ext.refl w
  refine Ret.body Try.func23 rfl Try.ntmps23 rfl ?_
  by_cases h4 : a.fam = 4
  · have ho := ok4 h4
    have hw := wf4 ha
    generalize hc : (⟨4, a.i0, a.i1, a.i2, a.i3, 0, 0, 0, 0, 0, 0, 0, 0, 0, 0, 0, 0, 0⟩ : Adr) = c at ho hw
    have hf := fun w1 => first31 a w1
    rw [hc] at hf
    clear hc
    refine Cd.seq ?_
    refine Cd.region ?_
    refine Seg.box rfl rfl rfl (fun w7 b7 hE7 hB7 hb7 => ?_)
    have hlt7_0 := Nat.le_trans hE0.size hb7
    replace hE0 := Ext.trans hE0 hE7
    refine Seg.step rfl rfl (Yd.assign rfl) ?_
    refine Seg.nil ?_
    refine At.then_ ?_
    refine Cd.seq ?_
    refine Cd.seq ?_
    refine Cd.region ?_
    refine Seg.step rfl rfl (Yd.fieldAddr rfl rfl) ?_
    refine Seg.step rfl rfl (Yd.load1 rfl rfl (hB7.row _ _ rfl)) ?_
    refine Seg.nil ?_
    refine At.then_ ?_
    refine Cd.block ?_
    refine Cd.seq ?_
    refine Cd.region ?_
    refine Seg.step rfl rfl (Yd.eql rfl rfl) ?_
    refine Seg.step rfl rfl (Yd.assign rfl) ?_
    refine Seg.nil ?_
    refine At.then_ ?_
    refine Cd.condk rfl (fun h25 => ?_) (fun h25 => ?_)
    rotate_left 1
    · exfalso; omega
    rotate_right 1
    refine Cd.seq ?_
    refine Cd.quiet (by kernel_rfl) (by kernel_rfl) ?_
    refine SegQ.step rfl rfl (fun w' hw' => Yd.loadN rfl rfl rfl (hB7.ext hw').row) ?_
    refine SegQ.step rfl rfl (fun w' hw' => Yd.loadN rfl rfl rfl (hB7.ext hw').row) ?_
    refine SegQ.call rfl rfl (own_of rfl) rfl (fun w' hw' => (hf w').mono fun v w2 ⟨hv, h2⟩ => ⟨hv, hw'.trans h2⟩) ?_
    refine SegQ.step rfl rfl (fun w' hw' => Yd.neqD rfl rfl (by kernel_rfl) (by kernel_rfl) (by kernel_rfl) (by kernel_rfl) (adr_lits a ha) (adr_lits c hw) (adr_eq a c)) ?_
    refine SegQ.nil fun w26 hE26 => ?_
    replace hE7 := Ext.trans hE7 hE26
    replace hB7 := hB7.ext hE26
    replace hE0 := Ext.trans hE0 hE26
    refine At.then_ ?_
    refine Cd.condk rfl (fun h28 => ?_) (fun h28 => ?_)
    · refine Cd.seq ?_
      refine Cd.region ?_
      refine Seg.step rfl rfl (Yd.assign rfl) ?_
      refine Seg.nil ?_
      refine At.then_ ?_
      refine Cd.ret ?_
      refine At.blk_ret ?_
      refine At.then_ret ?_
      exact At.ret Try.results23 (.tmp rfl .nil) ⟨⟨5, rfl, fun h => absurd h (by decide), fun h => ((by assumption : ¬ a = c) (ho.1 h)).elim⟩, by assumption⟩
    · refine Cd.skip ?_
      refine At.blk ?_
      refine At.then_ ?_
      refine Cd.seq ?_
      refine Cd.region ?_
      refine Seg.step rfl rfl (Yd.assign rfl) ?_
      refine Seg.nil ?_
      refine At.then_ ?_
      refine Cd.ret ?_
      exact At.ret Try.results23 (.tmp rfl .nil) ⟨⟨0, rfl, fun _ => ho.2 (Classical.not_not.1 (by assumption)), fun _ => rfl⟩, by assumption⟩
  · by_cases h6 : a.fam = 6
    · have ho := ok6 h6
      by_cases hz : 0 ≤ a.zone ∧ a.zone ≤ 2147483647
      · have hk := ho.2 hz
        refine Cd.seq ?_
        refine Cd.region ?_
        refine Seg.box rfl rfl rfl (fun w9 b9 hE9 hB9 hb9 => ?_)
        have hlt9_0 := Nat.le_trans hE0.size hb9
        replace hE0 := Ext.trans hE0 hE9
        refine Seg.step rfl rfl (Yd.assign rfl) ?_
        refine Seg.nil ?_
        refine At.then_ ?_
        refine Cd.seq ?_
        refine Cd.seq ?_
        refine Cd.region ?_
        refine Seg.step rfl rfl (Yd.fieldAddr rfl rfl) ?_
        refine Seg.step rfl rfl (Yd.load1 rfl rfl (hB9.row _ _ rfl)) ?_
        refine Seg.nil ?_
        refine At.then_ ?_
        refine Cd.block ?_
        refine Cd.seq ?_
        refine Cd.region ?_
        refine Seg.step rfl rfl (Yd.eql rfl rfl) ?_
        refine Seg.step rfl rfl (Yd.assign rfl) ?_
        refine Seg.nil ?_
        refine At.then_ ?_
        refine Cd.condk rfl (fun h27 => ?_) (fun h27 => ?_)
        · exfalso; omega
        · refine Cd.seq ?_
          refine Cd.region ?_
          refine Seg.step rfl rfl (Yd.eql rfl rfl) ?_
          refine Seg.step rfl rfl (Yd.assign rfl) ?_
          refine Seg.nil ?_
          refine At.then_ ?_
          refine Cd.condk rfl (fun h35 => ?_) (fun h35 => ?_)
          · refine Cd.seq ?_
            refine Cd.region ?_
            refine Seg.step rfl rfl (Yd.fieldAddr rfl rfl) ?_
            refine Seg.step rfl rfl (Yd.load1 rfl rfl (hB9.row _ _ rfl)) ?_
            refine Seg.step rfl rfl (Yd.lss rfl rfl) ?_
            refine Seg.step rfl rfl (Yd.move rfl) ?_
            refine Seg.gsplitp rfl rfl (fun h43 => ?_) (fun h43 => ?_)
            · exfalso; omega
            · refine Seg.step rfl rfl (Yd.fieldAddr rfl rfl) ?_
              refine Seg.step rfl rfl (Yd.load1 rfl rfl (hB9.row _ _ rfl)) ?_
              refine Seg.step rfl rfl (Yd.gtr rfl rfl) ?_
              refine Seg.step rfl rfl (Yd.pickF rfl rfl) ?_
              refine Seg.nil ?_
              refine At.then_ ?_
              refine Cd.condk rfl (fun h51 => ?_) (fun h51 => ?_)
              · exfalso; omega
              · refine Cd.skip ?_
                refine At.blk ?_
                refine At.then_ ?_
                refine Cd.seq ?_
                refine Cd.region ?_
                refine Seg.step rfl rfl (Yd.assign rfl) ?_
                refine Seg.nil ?_
                refine At.then_ ?_
                refine Cd.ret ?_
                exact At.ret Try.results23 (.tmp rfl .nil) ⟨⟨0, rfl, by simp [hk]⟩, by assumption⟩
          · exfalso; omega
      · have hk := fun h => hz (ho.1 h)
        refine Cd.seq ?_
        refine Cd.region ?_
        refine Seg.box rfl rfl rfl (fun w9 b9 hE9 hB9 hb9 => ?_)
        have hlt9_0 := Nat.le_trans hE0.size hb9
        replace hE0 := Ext.trans hE0 hE9
        refine Seg.step rfl rfl (Yd.assign rfl) ?_
        refine Seg.nil ?_
        refine At.then_ ?_
        refine Cd.seq ?_
        refine Cd.seq ?_
        refine Cd.region ?_
        refine Seg.step rfl rfl (Yd.fieldAddr rfl rfl) ?_
        refine Seg.step rfl rfl (Yd.load1 rfl rfl (hB9.row _ _ rfl)) ?_
        refine Seg.nil ?_
        refine At.then_ ?_
        refine Cd.block ?_
        refine Cd.seq ?_
        refine Cd.region ?_
        refine Seg.step rfl rfl (Yd.eql rfl rfl) ?_
        refine Seg.step rfl rfl (Yd.assign rfl) ?_
        refine Seg.nil ?_
        refine At.then_ ?_
        refine Cd.condk rfl (fun h27 => ?_) (fun h27 => ?_)
        · exfalso; omega
        · refine Cd.seq ?_
          refine Cd.region ?_
          refine Seg.step rfl rfl (Yd.eql rfl rfl) ?_
          refine Seg.step rfl rfl (Yd.assign rfl) ?_
          refine Seg.nil ?_
          refine At.then_ ?_
          refine Cd.condk rfl (fun h35 => ?_) (fun h35 => ?_)
          · refine Cd.seq ?_
            refine Cd.region ?_
            refine Seg.step rfl rfl (Yd.fieldAddr rfl rfl) ?_
            refine Seg.step rfl rfl (Yd.load1 rfl rfl (hB9.row _ _ rfl)) ?_
            refine Seg.step rfl rfl (Yd.lss rfl rfl) ?_
            refine Seg.step rfl rfl (Yd.move rfl) ?_
            refine Seg.gsplitp rfl rfl (fun h43 => ?_) (fun h43 => ?_)
            · refine Seg.skip rfl rfl ?_
              refine Seg.skip rfl rfl ?_
              refine Seg.skip rfl rfl ?_
              refine Seg.step rfl rfl (Yd.pickT rfl rfl) ?_
              refine Seg.nil ?_
              refine At.then_ ?_
              refine Cd.condT rfl ?_
              refine Cd.seq ?_
              refine Cd.region ?_
              refine Seg.step rfl rfl (Yd.assign rfl) ?_
              refine Seg.nil ?_
              refine At.then_ ?_
              refine Cd.ret ?_
              refine At.blk_ret ?_
              refine At.then_ret ?_
              exact At.ret Try.results23 (.tmp rfl .nil) ⟨⟨4, rfl, fun h => absurd h (by decide), fun h => (hk h).elim⟩, by assumption⟩
            · refine Seg.step rfl rfl (Yd.fieldAddr rfl rfl) ?_
              refine Seg.step rfl rfl (Yd.load1 rfl rfl (hB9.row _ _ rfl)) ?_
              refine Seg.step rfl rfl (Yd.gtr rfl rfl) ?_
              refine Seg.step rfl rfl (Yd.pickF rfl rfl) ?_
              refine Seg.nil ?_
              refine At.then_ ?_
              refine Cd.condk rfl (fun h68 => ?_) (fun h68 => ?_)
              · refine Cd.seq ?_
                refine Cd.region ?_
                refine Seg.step rfl rfl (Yd.assign rfl) ?_
                refine Seg.nil ?_
                refine At.then_ ?_
                refine Cd.ret ?_
                refine At.blk_ret ?_
                refine At.then_ret ?_
                exact At.ret Try.results23 (.tmp rfl .nil) ⟨⟨4, rfl, fun h => absurd h (by decide), fun h => (hk h).elim⟩, by assumption⟩
              · exfalso; omega
          · exfalso; omega
    · have ho := okN h4 h6
      refine Cd.seq ?_
      refine Cd.region ?_
      refine Seg.box rfl rfl rfl (fun w9 b9 hE9 hB9 hb9 => ?_)
      have hlt9_0 := Nat.le_trans hE0.size hb9
      replace hE0 := Ext.trans hE0 hE9
      refine Seg.step rfl rfl (Yd.assign rfl) ?_
      refine Seg.nil ?_
      refine At.then_ ?_
      refine Cd.seq ?_
      refine Cd.seq ?_
      refine Cd.region ?_
      refine Seg.step rfl rfl (Yd.fieldAddr rfl rfl) ?_
      refine Seg.step rfl rfl (Yd.load1 rfl rfl (hB9.row _ _ rfl)) ?_
      refine Seg.nil ?_
      refine At.then_ ?_
      refine Cd.block ?_
      refine Cd.seq ?_
      refine Cd.region ?_
      refine Seg.step rfl rfl (Yd.eql rfl rfl) ?_
      refine Seg.step rfl rfl (Yd.assign rfl) ?_
      refine Seg.nil ?_
      refine At.then_ ?_
      refine Cd.condk rfl (fun h27 => ?_) (fun h27 => ?_)
      · exfalso; omega
      · refine Cd.seq ?_
        refine Cd.region ?_
        refine Seg.step rfl rfl (Yd.eql rfl rfl) ?_
        refine Seg.step rfl rfl (Yd.assign rfl) ?_
        refine Seg.nil ?_
        refine At.then_ ?_
        refine Cd.condk rfl (fun h35 => ?_) (fun h35 => ?_)
        · exfalso; omega
        · refine Cd.seq ?_
          refine Cd.region ?_
          refine Seg.step rfl rfl (Yd.assign rfl) ?_
          refine Seg.nil ?_
          refine At.then_ ?_
          refine Cd.ret ?_
          refine At.blk_ret ?_
          refine At.then_ret ?_
          exact At.ret Try.results23 (.tmp rfl .nil) ⟨⟨10, rfl, by simp [ho]⟩, by assumption⟩
theorem ip_get {a : Adr} {i : Nat} (h : i < 16) : a.ip[i]? = some (a.ip.getD i 0) := by
  rw [List.getD_eq_getElem?_getD, List.getElem?_eq_getElem (by exact h)]; rfl
theorem ip_w8 {a : Adr} (h : WfA a) (i : Nat) : W8 (a.ip.getD i 0) := by
  rw [List.getD_eq_getElem?_getD]
  cases hc : a.ip[i]? with
  | none => rfl
  | some x => exact h.2.2 x (List.mem_of_getElem? hc)
def ipV (a : Adr) : List Value := a.ip.map (.int .u8)
theorem ipV_get {a : Adr} {i : Nat} (h : i < 16) : (ipV a)[i]? = some (.int .u8 (a.ip.getD i 0)) := by
  rw [ipV, List.getElem?_map, ip_get h]; rfl
theorem cells_ip {a : Adr} {i : Nat} (h : i < 16) : a.cells[1 + i]? = some (.int .u8 (a.ip.getD i 0)) := by
  rw [show a.cells = (Value.int .i64 a.fam :: ipV a) ++ [.int .i64 a.zone] from rfl, List.getElem?_append_left (by simp [ipV, Adr.ip]; omega), Nat.add_comm, List.getElem?_cons_succ]
  exact ipV_get h
theorem ok4' {a : Adr} (h : a.fam = 4) : okA a ↔ (∀ i : Nat, 4 ≤ i → i < 16 → a.ip.getD i 0 = 0) ∧ a.zone = 0 := by
  constructor
  · rintro (⟨_, hz, h2⟩ | ⟨h1, _⟩)
    · refine ⟨fun i h3 h4 => ?_, h2⟩
      obtain ⟨g4, g5, g6, g7, g8, g9, g10, g11, g12, g13, g14, g15⟩ := hz
      have : i = 4 ∨ i = 5 ∨ i = 6 ∨ i = 7 ∨ i = 8 ∨ i = 9 ∨ i = 10 ∨ i = 11 ∨ i = 12 ∨ i = 13 ∨ i = 14 ∨ i = 15 := by omega
      rcases this with rfl | rfl | rfl | rfl | rfl | rfl | rfl | rfl | rfl | rfl | rfl | rfl <;> assumption
    · omega
  · rintro ⟨h1, h2⟩
    exact .inl ⟨h, ⟨h1 4 (by omega) (by omega), h1 5 (by omega) (by omega), h1 6 (by omega) (by omega), h1 7 (by omega) (by omega), h1 8 (by omega) (by omega), h1 9 (by omega) (by omega), h1 10 (by omega) (by omega), h1 11 (by omega) (by omega), h1 12 (by omega) (by omega), h1 13 (by omega) (by omega), h1 14 (by omega) (by omega), h1 15 (by omega) (by omega)⟩, h2⟩
theorem check26 (a : Adr) (w : World) (ha : WfA a) : Ret Try.prog 26 #[.agg a.cells.toArray] w fun v w' => (∃ e : Int, v = .int .i64 e ∧ (e = 0 ↔ okA a)) ∧ Ext w w' := by
  have hE0 := Ext.refl w
  refine Ret.body Try.func26 rfl Try.ntmps26 rfl ?_
  by_cases h4 : a.fam = 4
  · have ho := ok4' h4
    refine Cd.seq ?_
    refine Cd.region ?_
    refine Seg.box rfl rfl rfl (fun w7 b7 hE7 hB7 hb7 => ?_)
    have hlt7_0 := Nat.le_trans hE0.size hb7
    replace hE0 := Ext.trans hE0 hE7
    refine Seg.step rfl rfl (Yd.assign rfl) ?_
    refine Seg.nil ?_
    refine At.then_ ?_
    refine Cd.seq ?_
    refine Cd.seq ?_
    refine Cd.region ?_
    refine Seg.step rfl rfl (Yd.fieldAddr rfl rfl) ?_
    refine Seg.step rfl rfl (Yd.load1 rfl rfl (hB7.row _ _ rfl)) ?_
    refine Seg.step rfl rfl (Yd.neq rfl rfl) ?_
    refine Seg.step rfl rfl (Yd.move rfl) ?_
    refine Seg.gsplitp rfl rfl (fun h18 => ?_) (fun h18 => ?_)
    · exfalso; omega
    refine Seg.skip rfl rfl ?_
    refine Seg.skip rfl rfl ?_
    refine Seg.skip rfl rfl ?_
    refine Seg.step rfl rfl (Yd.pickF rfl rfl) ?_
    refine Seg.nil ?_
    refine At.then_ ?_
    refine Cd.condF rfl ?_
    refine Cd.skip ?_
    refine At.then_ ?_
    refine Cd.seq ?_
    refine Cd.seq ?_
    refine Cd.region ?_
    refine Seg.step rfl rfl (Yd.fieldAddr rfl rfl) ?_
    refine Seg.step rfl rfl (Yd.load1 rfl rfl (hB7.row _ _ rfl)) ?_
    refine Seg.step rfl rfl (Yd.eql rfl rfl) ?_
    refine Seg.nil ?_
    refine At.then_ ?_
    refine Cd.condk rfl (fun h37 => ?_) (fun h37 => ?_)
    rotate_left 1
    · exfalso; omega
    rotate_right 1
    refine Cd.seq ?_
    refine Cd.seq ?_
    refine Cd.region ?_
    refine Seg.step rfl rfl (Yd.assign rfl) ?_
    refine Seg.nil ?_
    refine At.then_ ?_
    refine Cd.block ?_
    refine Cd.loop (σ := Nat) (fun i => [(1, .pointer (some ⟨b7, 0, none⟩)), (2, .int .i64 0), (3, .int .i64 (i : Int))])
      (fun i w' => (4 ≤ i ∧ i ≤ 16) ∧ (∀ j : Nat, 4 ≤ j → j < i → a.ip.getD j 0 = 0) ∧ Ext w w' ∧ Bx w' b7 a.cells) (fun i => 16 - i) 4 (.cons rfl (.cons rfl (.cons rfl (.nil _)))) ⟨⟨by omega, by omega⟩, (fun j h1 h2 => by omega), by assumption, hB7⟩ ?_
    clear hB7
    rintro i w0 ⟨⟨hi1, hi2⟩, hall, hE, hB7⟩
    by_cases hlt : i < 16
    · by_cases hb0 : a.ip.getD i 0 = 0
      · refine Cd.seq ?_
        refine Cd.seq ?_
        refine Cd.region ?_
        refine Seg.step rfl rfl (Yd.move rfl) ?_
        refine Seg.step rfl rfl (Yd.lss rfl rfl) ?_
        refine Seg.nil ?_
        refine At.then_ ?_
        refine Cd.condk rfl (fun h45 => ?_) (fun h45 => ?_)
        · refine Cd.skip ?_
          refine At.then_ ?_
          refine Cd.seq ?_
          refine Cd.block ?_
          refine Cd.seq ?_
          refine Cd.region ?_
          refine Seg.step rfl rfl (Yd.move rfl) ?_
          refine Seg.step rfl rfl (Yd.fieldAddr rfl rfl) ?_
          refine Seg.step rfl rfl (Yd.indexArr1' rfl rfl rfl (NatOf.cast _) (by omega)) ?_
          refine Seg.step rfl rfl (Yd.load1 rfl rfl (hB7.row _ _ (cells_ip hlt))) ?_
          refine Seg.step rfl rfl (Yd.neq rfl rfl) ?_
          refine Seg.nil ?_
          refine At.then_ ?_
          refine Cd.condk rfl (fun h60 => ?_) (fun h60 => ?_)
          · exfalso; omega
          · refine Cd.skip ?_
            refine At.blk ?_
            refine At.then_ ?_
            refine Cd.region ?_
            refine Seg.step rfl rfl (Yd.move rfl) ?_
            refine Seg.step rfl rfl (Yd.addI rfl rfl (by omega)) ?_
            refine Seg.step rfl rfl (Yd.assign rfl) ?_
            refine Seg.nil ?_
            exact At.round (i + 1) (.cons rfl (.cons rfl (.cons rfl (.nil _)))) ⟨⟨by omega, by omega⟩, (fun j h1 h2 => by by_cases hj : j < i; (exact hall j h1 hj); (have : j = i := by omega); subst this; exact hb0), by assumption, by assumption⟩ (by omega)
        · exfalso; omega
      · have hk : ¬ okA a := fun h => hb0 ((ho.1 h).1 i hi1 hlt)
        refine Cd.seq ?_
        refine Cd.seq ?_
        refine Cd.region ?_
        refine Seg.step rfl rfl (Yd.move rfl) ?_
        refine Seg.step rfl rfl (Yd.lss rfl rfl) ?_
        refine Seg.nil ?_
        refine At.then_ ?_
        refine Cd.condk rfl (fun h45 => ?_) (fun h45 => ?_)
        · refine Cd.skip ?_
          refine At.then_ ?_
          refine Cd.seq ?_
          refine Cd.block ?_
          refine Cd.seq ?_
          refine Cd.region ?_
          refine Seg.step rfl rfl (Yd.move rfl) ?_
          refine Seg.step rfl rfl (Yd.fieldAddr rfl rfl) ?_
          refine Seg.step rfl rfl (Yd.indexArr1' rfl rfl rfl (NatOf.cast _) (by omega)) ?_
          refine Seg.step rfl rfl (Yd.load1 rfl rfl (hB7.row _ _ (cells_ip hlt))) ?_
          refine Seg.step rfl rfl (Yd.neq rfl rfl) ?_
          refine Seg.nil ?_
          refine At.then_ ?_
          refine Cd.condk rfl (fun h60 => ?_) (fun h60 => ?_)
          · refine Cd.seq ?_
            refine Cd.region ?_
            refine Seg.step rfl rfl (Yd.assign rfl) ?_
            refine Seg.nil ?_
            refine At.then_ ?_
            refine Cd.ret ?_
            refine At.blk_ret ?_
            refine At.then_ret ?_
            refine At.then_ret ?_
            refine At.blk_ret ?_
            refine At.then_ret ?_
            refine At.then_ret ?_
            exact At.ret Try.results26 (.tmp rfl .nil) ⟨⟨5, rfl, by simp [hk]⟩, by assumption⟩
          · exfalso; omega
        · exfalso; omega
    · have hi : i = 16 := by omega
      subst hi
      by_cases hz : a.zone = 0
      · have hk := ho.2 ⟨hall, hz⟩
        refine Cd.seq ?_
        refine Cd.seq ?_
        refine Cd.region ?_
        refine Seg.step rfl rfl (Yd.move rfl) ?_
        refine Seg.step rfl rfl (Yd.lss rfl rfl) ?_
        refine Seg.nil ?_
        refine At.then_ ?_
        refine Cd.condF rfl ?_
        refine Cd.exit ?_
        refine At.then_exit ?_
        refine At.then_exit ?_
        refine At.blk_same ?_
        refine At.then_ ?_
        refine Cd.seq ?_
        refine Cd.region ?_
        refine Seg.step rfl rfl (Yd.fieldAddr rfl rfl) ?_
        refine Seg.step rfl rfl (Yd.load1 rfl rfl (hB7.row _ _ rfl)) ?_
        refine Seg.step rfl rfl (Yd.neq rfl rfl) ?_
        refine Seg.nil ?_
        refine At.then_ ?_
        refine Cd.condk rfl (fun h58 => ?_) (fun h58 => ?_)
        · exfalso; omega
        · refine Cd.skip ?_
          refine At.then_ ?_
          refine Cd.seq ?_
          refine Cd.seq ?_
          refine Cd.region ?_
          refine Seg.step rfl rfl (Yd.fieldAddr rfl rfl) ?_
          refine Seg.step rfl rfl (Yd.load1 rfl rfl (hB7.row _ _ rfl)) ?_
          refine Seg.step rfl rfl (Yd.lss rfl rfl) ?_
          refine Seg.step rfl rfl (Yd.move rfl) ?_
          refine Seg.gsplitp rfl rfl (fun h69 => ?_) (fun h69 => ?_)
          · exfalso; omega
          · refine Seg.step rfl rfl (Yd.fieldAddr rfl rfl) ?_
            refine Seg.step rfl rfl (Yd.load1 rfl rfl (hB7.row _ _ rfl)) ?_
            refine Seg.step rfl rfl (Yd.gtr rfl rfl) ?_
            refine Seg.step rfl rfl (Yd.pickF rfl rfl) ?_
            refine Seg.nil ?_
            refine At.then_ ?_
            refine Cd.condk rfl (fun h77 => ?_) (fun h77 => ?_)
            · exfalso; omega
            · refine Cd.skip ?_
              refine At.then_ ?_
              refine Cd.seq ?_
              refine Cd.region ?_
              refine Seg.step rfl rfl (Yd.assign rfl) ?_
              refine Seg.nil ?_
              refine At.then_ ?_
              refine Cd.ret ?_
              exact At.ret Try.results26 (.tmp rfl .nil) ⟨⟨0, rfl, by simp [hk]⟩, by assumption⟩
      · have hk : ¬ okA a := fun h => hz (ho.1 h).2
        refine Cd.seq ?_
        refine Cd.seq ?_
        refine Cd.region ?_
        refine Seg.step rfl rfl (Yd.move rfl) ?_
        refine Seg.step rfl rfl (Yd.lss rfl rfl) ?_
        refine Seg.nil ?_
        refine At.then_ ?_
        refine Cd.condF rfl ?_
        refine Cd.exit ?_
        refine At.then_exit ?_
        refine At.then_exit ?_
        refine At.blk_same ?_
        refine At.then_ ?_
        refine Cd.seq ?_
        refine Cd.region ?_
        refine Seg.step rfl rfl (Yd.fieldAddr rfl rfl) ?_
        refine Seg.step rfl rfl (Yd.load1 rfl rfl (hB7.row _ _ rfl)) ?_
        refine Seg.step rfl rfl (Yd.neq rfl rfl) ?_
        refine Seg.nil ?_
        refine At.then_ ?_
        refine Cd.condk rfl (fun h58 => ?_) (fun h58 => ?_)
        · refine Cd.seq ?_
          refine Cd.region ?_
          refine Seg.step rfl rfl (Yd.assign rfl) ?_
          refine Seg.nil ?_
          refine At.then_ ?_
          refine Cd.ret ?_
          refine At.then_ret ?_
          exact At.ret Try.results26 (.tmp rfl .nil) ⟨⟨5, rfl, by simp [hk]⟩, by assumption⟩
        · exfalso; omega
  · by_cases h6 : a.fam = 6
    · have ho := ok6 h6
      by_cases hz : 0 ≤ a.zone ∧ a.zone ≤ 2147483647
      · have hk := ho.2 hz
        refine Cd.seq ?_
        refine Cd.region ?_
        refine Seg.box rfl rfl rfl (fun w9 b9 hE9 hB9 hb9 => ?_)
        have hlt9_0 := Nat.le_trans hE0.size hb9
        replace hE0 := Ext.trans hE0 hE9
        refine Seg.step rfl rfl (Yd.assign rfl) ?_
        refine Seg.nil ?_
        refine At.then_ ?_
        refine Cd.seq ?_
        refine Cd.seq ?_
        refine Cd.region ?_
        refine Seg.step rfl rfl (Yd.fieldAddr rfl rfl) ?_
        refine Seg.step rfl rfl (Yd.load1 rfl rfl (hB9.row _ _ rfl)) ?_
        refine Seg.step rfl rfl (Yd.neq rfl rfl) ?_
        refine Seg.step rfl rfl (Yd.move rfl) ?_
        refine Seg.gsplitp rfl rfl (fun h20 => ?_) (fun h20 => ?_)
        · refine Seg.step rfl rfl (Yd.fieldAddr rfl rfl) ?_
          refine Seg.step rfl rfl (Yd.load1 rfl rfl (hB9.row _ _ rfl)) ?_
          refine Seg.step rfl rfl (Yd.neq rfl rfl) ?_
          refine Seg.step rfl rfl (Yd.pickT rfl rfl) ?_
          refine Seg.nil ?_
          refine At.then_ ?_
          refine Cd.condk rfl (fun h28 => ?_) (fun h28 => ?_)
          · exfalso; omega
          · refine Cd.skip ?_
            refine At.then_ ?_
            refine Cd.seq ?_
            refine Cd.seq ?_
            refine Cd.region ?_
            refine Seg.step rfl rfl (Yd.fieldAddr rfl rfl) ?_
            refine Seg.step rfl rfl (Yd.load1 rfl rfl (hB9.row _ _ rfl)) ?_
            refine Seg.step rfl rfl (Yd.eql rfl rfl) ?_
            refine Seg.nil ?_
            refine At.then_ ?_
            refine Cd.condk rfl (fun h40 => ?_) (fun h40 => ?_)
            · exfalso; omega
            · refine Cd.skip ?_
              refine At.then_ ?_
              refine Cd.seq ?_
              refine Cd.seq ?_
              refine Cd.region ?_
              refine Seg.step rfl rfl (Yd.fieldAddr rfl rfl) ?_
              refine Seg.step rfl rfl (Yd.load1 rfl rfl (hB9.row _ _ rfl)) ?_
              refine Seg.step rfl rfl (Yd.lss rfl rfl) ?_
              refine Seg.step rfl rfl (Yd.move rfl) ?_
              refine Seg.gsplitp rfl rfl (fun h51 => ?_) (fun h51 => ?_)
              · exfalso; omega
              · refine Seg.step rfl rfl (Yd.fieldAddr rfl rfl) ?_
                refine Seg.step rfl rfl (Yd.load1 rfl rfl (hB9.row _ _ rfl)) ?_
                refine Seg.step rfl rfl (Yd.gtr rfl rfl) ?_
                refine Seg.step rfl rfl (Yd.pickF rfl rfl) ?_
                refine Seg.nil ?_
                refine At.then_ ?_
                refine Cd.condk rfl (fun h59 => ?_) (fun h59 => ?_)
                · exfalso; omega
                · refine Cd.skip ?_
                  refine At.then_ ?_
                  refine Cd.seq ?_
                  refine Cd.region ?_
                  refine Seg.step rfl rfl (Yd.assign rfl) ?_
                  refine Seg.nil ?_
                  refine At.then_ ?_
                  refine Cd.ret ?_
                  exact At.ret Try.results26 (.tmp rfl .nil) ⟨⟨0, rfl, by simp [hk]⟩, by assumption⟩
        · exfalso; omega
      · have hk := fun h => hz (ho.1 h)
        refine Cd.seq ?_
        refine Cd.region ?_
        refine Seg.box rfl rfl rfl (fun w9 b9 hE9 hB9 hb9 => ?_)
        have hlt9_0 := Nat.le_trans hE0.size hb9
        replace hE0 := Ext.trans hE0 hE9
        refine Seg.step rfl rfl (Yd.assign rfl) ?_
        refine Seg.nil ?_
        refine At.then_ ?_
        refine Cd.seq ?_
        refine Cd.seq ?_
        refine Cd.region ?_
        refine Seg.step rfl rfl (Yd.fieldAddr rfl rfl) ?_
        refine Seg.step rfl rfl (Yd.load1 rfl rfl (hB9.row _ _ rfl)) ?_
        refine Seg.step rfl rfl (Yd.neq rfl rfl) ?_
        refine Seg.step rfl rfl (Yd.move rfl) ?_
        refine Seg.gsplitp rfl rfl (fun h20 => ?_) (fun h20 => ?_)
        · refine Seg.step rfl rfl (Yd.fieldAddr rfl rfl) ?_
          refine Seg.step rfl rfl (Yd.load1 rfl rfl (hB9.row _ _ rfl)) ?_
          refine Seg.step rfl rfl (Yd.neq rfl rfl) ?_
          refine Seg.step rfl rfl (Yd.pickT rfl rfl) ?_
          refine Seg.nil ?_
          refine At.then_ ?_
          refine Cd.condk rfl (fun h28 => ?_) (fun h28 => ?_)
          · exfalso; omega
          · refine Cd.skip ?_
            refine At.then_ ?_
            refine Cd.seq ?_
            refine Cd.seq ?_
            refine Cd.region ?_
            refine Seg.step rfl rfl (Yd.fieldAddr rfl rfl) ?_
            refine Seg.step rfl rfl (Yd.load1 rfl rfl (hB9.row _ _ rfl)) ?_
            refine Seg.step rfl rfl (Yd.eql rfl rfl) ?_
            refine Seg.nil ?_
            refine At.then_ ?_
            refine Cd.condk rfl (fun h40 => ?_) (fun h40 => ?_)
            · exfalso; omega
            · refine Cd.skip ?_
              refine At.then_ ?_
              refine Cd.seq ?_
              refine Cd.seq ?_
              refine Cd.region ?_
              refine Seg.step rfl rfl (Yd.fieldAddr rfl rfl) ?_
              refine Seg.step rfl rfl (Yd.load1 rfl rfl (hB9.row _ _ rfl)) ?_
              refine Seg.step rfl rfl (Yd.lss rfl rfl) ?_
              refine Seg.step rfl rfl (Yd.move rfl) ?_
              refine Seg.gsplitp rfl rfl (fun h51 => ?_) (fun h51 => ?_)
              · refine Seg.skip rfl rfl ?_
                refine Seg.skip rfl rfl ?_
                refine Seg.skip rfl rfl ?_
                refine Seg.step rfl rfl (Yd.pickT rfl rfl) ?_
                refine Seg.nil ?_
                refine At.then_ ?_
                refine Cd.condT rfl ?_
                refine Cd.seq ?_
                refine Cd.region ?_
                refine Seg.step rfl rfl (Yd.assign rfl) ?_
                refine Seg.nil ?_
                refine At.then_ ?_
                refine Cd.ret ?_
                refine At.then_ret ?_
                exact At.ret Try.results26 (.tmp rfl .nil) ⟨⟨4, rfl, fun h => absurd h (by decide), fun h => (hk h).elim⟩, by assumption⟩
              · refine Seg.step rfl rfl (Yd.fieldAddr rfl rfl) ?_
                refine Seg.step rfl rfl (Yd.load1 rfl rfl (hB9.row _ _ rfl)) ?_
                refine Seg.step rfl rfl (Yd.gtr rfl rfl) ?_
                refine Seg.step rfl rfl (Yd.pickF rfl rfl) ?_
                refine Seg.nil ?_
                refine At.then_ ?_
                refine Cd.condk rfl (fun h75 => ?_) (fun h75 => ?_)
                · refine Cd.seq ?_
                  refine Cd.region ?_
                  refine Seg.step rfl rfl (Yd.assign rfl) ?_
                  refine Seg.nil ?_
                  refine At.then_ ?_
                  refine Cd.ret ?_
                  refine At.then_ret ?_
                  exact At.ret Try.results26 (.tmp rfl .nil) ⟨⟨4, rfl, fun h => absurd h (by decide), fun h => (hk h).elim⟩, by assumption⟩
                · exfalso; omega
        · exfalso; omega
    · have ho := okN h4 h6
      refine Cd.seq ?_
      refine Cd.region ?_
      refine Seg.box rfl rfl rfl (fun w9 b9 hE9 hB9 hb9 => ?_)
      have hlt9_0 := Nat.le_trans hE0.size hb9
      replace hE0 := Ext.trans hE0 hE9
      refine Seg.step rfl rfl (Yd.assign rfl) ?_
      refine Seg.nil ?_
      refine At.then_ ?_
      refine Cd.seq ?_
      refine Cd.seq ?_
      refine Cd.region ?_
      refine Seg.step rfl rfl (Yd.fieldAddr rfl rfl) ?_
      refine Seg.step rfl rfl (Yd.load1 rfl rfl (hB9.row _ _ rfl)) ?_
      refine Seg.step rfl rfl (Yd.neq rfl rfl) ?_
      refine Seg.step rfl rfl (Yd.move rfl) ?_
      refine Seg.gsplitp rfl rfl (fun h20 => ?_) (fun h20 => ?_)
      · refine Seg.step rfl rfl (Yd.fieldAddr rfl rfl) ?_
        refine Seg.step rfl rfl (Yd.load1 rfl rfl (hB9.row _ _ rfl)) ?_
        refine Seg.step rfl rfl (Yd.neq rfl rfl) ?_
        refine Seg.step rfl rfl (Yd.pickT rfl rfl) ?_
        refine Seg.nil ?_
        refine At.then_ ?_
        refine Cd.condk rfl (fun h28 => ?_) (fun h28 => ?_)
        · refine Cd.seq ?_
          refine Cd.region ?_
          refine Seg.step rfl rfl (Yd.assign rfl) ?_
          refine Seg.nil ?_
          refine At.then_ ?_
          refine Cd.ret ?_
          refine At.then_ret ?_
          exact At.ret Try.results26 (.tmp rfl .nil) ⟨⟨10, rfl, by simp [ho]⟩, by assumption⟩
        · exfalso; omega
      · exfalso; omega
end Go.Proofs.Ytdomaooegpeneaa
