/- Targets in the order of their keys: how two of them are compared. -/
import Derived.Test.YtccppgpedlfjdaaSrp
import Derived.Test.YtccppgpedlfjdaaBrs
namespace Go.Proofs.Ytccppgpedlfjdaa
open Go Go.RowKit
/-- A Weight as it counts. -/
def heldI (i : Int) : Int := max 0 (min i 2147483648)
def OneR (r : Rec) : Prop := r.vn.oneCell' = true ∧ r.vt.oneCell' = true ∧ r.vm.oneCell' = true
abbrev El := { r : Rec // OneR r }
def cel (x : El) : List Value := x.1.cells
/-- Its priority, and whether it has no weight. -/
def key (x : El) : Int := 2 * x.1.pri + min (heldI x.1.wt) 1
theorem celK (x : El) : (cel x).length = 33 := rfl
theorem celOne (x : El) : ∀ c ∈ cel x, c.oneCell' = true := by
  intro c hc
  obtain ⟨h1, h2, h3⟩ := x.2
  simp only [cel, Rec.cells, List.mem_cons, List.not_mem_nil, or_false] at hc
  rcases hc with rfl | rfl | rfl | rfl | rfl | rfl | rfl | rfl | rfl | rfl | rfl | rfl | rfl | rfl | rfl | rfl | rfl | rfl | rfl | rfl | rfl | rfl | rfl | rfl | rfl | rfl | rfl | rfl | rfl | rfl | rfl | rfl | rfl <;> first | rfl | assumption
theorem neqSelf {P : Program} {n : Nat} {fr : Fr} {w : World} {T U U' : TypeId} {x y : Operand} {k : IntKind} {i : Int} (hx : Fr.ev fr x = some (.int k i)) (hy : Fr.ev fr y = some (.int k i)) : Yd P n (.binOp .neq U x y U') T fr w (.bool false) w := by
  have := Yd.neq (P := P) (n := n) (w := w) (T := T) (U := U) (U' := U') hx hy
  simpa using this
theorem nan_any (i : Int) (w : World) : Ret Try.prog 32 #[.int .i64 i] w fun v w' => v = .bool false ∧ Ext w w' := by
  have hE0 := Ext.refl w
  refine Ret.body Try.func32 rfl Try.ntmps32 rfl ?_
  refine Cd.seq ?_
  refine Cd.region ?_
  refine Seg.step rfl rfl (Yd.assign rfl) ?_
  refine Seg.nil ?_
  refine At.then_ ?_
  refine Cd.seq ?_
  refine Cd.region ?_
  refine Seg.step rfl rfl (Yd.move rfl) ?_
  refine Seg.step rfl rfl (Yd.move rfl) ?_
  refine Seg.step rfl rfl (v := .bool false) (neqSelf rfl rfl) ?_
  refine Seg.step rfl rfl (Yd.assign rfl) ?_
  refine Seg.nil ?_
  refine At.then_ ?_
  refine Cd.ret ?_
  exact At.ret Try.results32 (.tmp rfl .nil) ⟨rfl, hE0⟩
theorem compare_any (i j : Int) (w : World) : Ret Try.prog 25 #[.int .i64 i, .int .i64 j] w fun v w' => (∃ c : Int, v = .int .i64 c ∧ (c < 0 ↔ i < j)) ∧ Ext w w' := by
  have hE0 := Ext.refl w
  refine Ret.body Try.func25 rfl Try.ntmps25 rfl ?_
  refine Cd.seq ?_
  refine Cd.region ?_
  refine Seg.step rfl rfl (Yd.assign rfl) ?_
  refine Seg.nil ?_
  refine At.then_ ?_
  refine Cd.seq ?_
  refine Cd.region ?_
  refine Seg.step rfl rfl (Yd.move rfl) ?_
  (refine Seg.call rfl rfl (own_of rfl) rfl (nan_any _ _) ?_; rintro _ w9 ⟨rfl, hE9⟩)
  replace hE0 := Ext.trans hE0 hE9
  refine Seg.step rfl rfl (Yd.assign rfl) ?_
  refine Seg.nil ?_
  refine At.then_ ?_
  refine Cd.seq ?_
  refine Cd.region ?_
  refine Seg.step rfl rfl (Yd.move rfl) ?_
  (refine Seg.call rfl rfl (own_of rfl) rfl (nan_any _ _) ?_; rintro _ w16 ⟨rfl, hE16⟩)
  replace hE9 := Ext.trans hE9 hE16
  replace hE0 := Ext.trans hE0 hE16
  refine Seg.step rfl rfl (Yd.assign rfl) ?_
  refine Seg.nil ?_
  refine At.then_ ?_
  refine Cd.seq ?_
  refine Cd.seq ?_
  refine Cd.region ?_
  refine Seg.step rfl rfl (Yd.move rfl) ?_
  refine Seg.nil ?_
  refine At.then_ ?_
  refine Cd.condF rfl ?_
  refine Cd.skip ?_
  refine At.then_ ?_
  refine Cd.seq ?_
  refine Cd.seq ?_
  refine Cd.region ?_
  refine Seg.step rfl rfl (Yd.move rfl) ?_
  refine Seg.nil ?_
  refine At.then_ ?_
  refine Cd.condF rfl ?_
  refine Cd.skip ?_
  refine At.then_ ?_
  refine Cd.seq ?_
  refine Cd.seq ?_
  refine Cd.region ?_
  refine Seg.step rfl rfl (Yd.move rfl) ?_
  refine Seg.step rfl rfl (Yd.move rfl) ?_
  refine Seg.step rfl rfl (Yd.lss rfl rfl) ?_
  refine Seg.nil ?_
  refine At.then_ ?_
  refine Cd.condk rfl (fun h46 => ?_) (fun h46 => ?_)
  · refine Cd.seq ?_
    refine Cd.region ?_
    refine Seg.step rfl rfl (Yd.assign rfl) ?_
    refine Seg.nil ?_
    refine At.then_ ?_
    refine Cd.ret ?_
    refine At.then_ret ?_
    exact At.ret Try.results25 (.tmp rfl .nil) ⟨⟨_, rfl, by omega⟩, hE0⟩
  · refine Cd.skip ?_
    refine At.then_ ?_
    refine Cd.seq ?_
    refine Cd.seq ?_
    refine Cd.region ?_
    refine Seg.step rfl rfl (Yd.move rfl) ?_
    refine Seg.step rfl rfl (Yd.move rfl) ?_
    refine Seg.step rfl rfl (Yd.gtr rfl rfl) ?_
    refine Seg.nil ?_
    refine At.then_ ?_
    refine Cd.condk rfl (fun h67 => ?_) (fun h67 => ?_)
    · refine Cd.seq ?_
      refine Cd.region ?_
      refine Seg.step rfl rfl (Yd.assign rfl) ?_
      refine Seg.nil ?_
      refine At.then_ ?_
      refine Cd.ret ?_
      refine At.then_ret ?_
      exact At.ret Try.results25 (.tmp rfl .nil) ⟨⟨_, rfl, by omega⟩, hE0⟩
    · refine Cd.skip ?_
      refine At.then_ ?_
      refine Cd.seq ?_
      refine Cd.region ?_
      refine Seg.step rfl rfl (Yd.assign rfl) ?_
      refine Seg.nil ?_
      refine At.then_ ?_
      refine Cd.ret ?_
      exact At.ret Try.results25 (.tmp rfl .nil) ⟨⟨_, rfl, by omega⟩, hE0⟩
theorem Yd.max2N {P : Program} [Tys P] {n : Nat} {fr : Fr} {w : World} {T : TypeId} {x y : Operand} {U U' : TypeId} {k k' : IntKind} {i j : Int} (hx : Fr.ev fr x = some (.int k i)) (hy : Fr.ev fr y = some (.int k' j)) : Yd P n (.call ⟨.builtin .max, #[x, y], #[U, U']⟩) T fr w (.int k (if i < j then j else i)) w :=
  .val fun a ha d pos aft g => by
    simp [execOp, resolve, invoke, builtin, ha.ev hx, ha.ev hy, Builtin.max_, Builtin.max2]
theorem held_any (i : Int) (w : World) : Ret Try.prog 26 #[.int .i64 i] w fun v w' => v = .int .i64 (heldI i) ∧ Ext w w' := by
  have hE0 := Ext.refl w
  refine Ret.body Try.func26 rfl Try.ntmps26 rfl ?_
  have he : (if (0 : Int) < (if (2147483648 : Int) < i then 2147483648 else i) then (if (2147483648 : Int) < i then 2147483648 else i) else 0) = heldI i := by
    unfold heldI
    split <;> split <;> omega
  refine Cd.seq ?_
  refine Cd.region ?_
  refine Seg.step rfl rfl (Yd.assign rfl) ?_
  refine Seg.nil ?_
  refine At.then_ ?_
  refine Cd.seq ?_
  refine Cd.region ?_
  refine Seg.step rfl rfl (Yd.move rfl) ?_
  refine Seg.step rfl rfl (Yd.min2 rfl rfl) ?_
  (refine Seg.step rfl rfl (Yd.max2N rfl rfl) ?_; rw [he])
  refine Seg.step rfl rfl (Yd.assign rfl) ?_
  refine Seg.nil ?_
  refine At.then_ ?_
  refine Cd.ret ?_
  exact At.ret Try.results26 (.tmp rfl .nil) ⟨rfl, hE0⟩
theorem key_lt {x y : El} : key x < key y ↔ if x.1.pri = y.1.pri then min (heldI x.1.wt) 1 < min (heldI y.1.wt) 1 else x.1.pri < y.1.pri := by
  have h1 : 0 ≤ min (heldI x.1.wt) 1 ∧ min (heldI x.1.wt) 1 ≤ 1 := by unfold heldI; omega
  have h2 : 0 ≤ min (heldI y.1.wt) 1 ∧ min (heldI y.1.wt) 1 ≤ 1 := by unfold heldI; omega
  unfold key
  split <;> omega
theorem cmp_any (x y : El) (w : World) : Ret Try.prog 24 #[.agg (cel x).toArray, .agg (cel y).toArray] w fun v w' => (∃ c : Int, v = .int .i64 c ∧ (c < 0 ↔ key x < key y)) ∧ Ext w w' := by
  have hE0 := Ext.refl w
  obtain ⟨x, hx⟩ := x
  obtain ⟨y, hy⟩ := y
  refine Ret.body Try.func24 rfl Try.ntmps24 rfl ?_
  rw [key_lt]
  simp only [cel]
  by_cases hp : x.pri = y.pri
  · rw [if_pos hp]
    have em : ∀ i : Int, (if (1 : Int) < heldI i then 1 else heldI i) = min (heldI i) 1 := fun i => by split <;> omega
    rw [← em x.wt, ← em y.wt]
    refine Cd.seq ?_
    refine Cd.region ?_
    refine Seg.box rfl rfl rfl (fun w3 b3 hE3 hB3 hb3 => ?_)
    have hlt3_0 := Nat.le_trans hE0.size hb3
    replace hE0 := Ext.trans hE0 hE3
    refine Seg.box rfl rfl rfl (fun w4 b4 hE4 hB4 hb4 => ?_)
    have hlt4_0 := Nat.le_trans hE3.size hb4
    have hlt4_1 := Nat.lt_of_lt_of_le hB3.lt hb4
    have hlt4_2 := Nat.le_trans hE0.size hb4
    replace hE3 := Ext.trans hE3 hE4
    replace hB3 := hB3.ext hE4
    replace hE0 := Ext.trans hE0 hE4
    refine Seg.step rfl rfl (Yd.assign rfl) ?_
    refine Seg.nil ?_
    refine At.then_ ?_
    refine Cd.seq ?_
    refine Cd.seq ?_
    refine Cd.region ?_
    refine Seg.step rfl rfl (Yd.fieldAddr rfl rfl) ?_
    refine Seg.step rfl rfl (Yd.load1 rfl rfl (hB3.row _ _ rfl)) ?_
    refine Seg.step rfl rfl (Yd.fieldAddr rfl rfl) ?_
    refine Seg.step rfl rfl (Yd.load1 rfl rfl (hB4.row _ _ rfl)) ?_
    refine Seg.step rfl rfl (Yd.neq rfl rfl) ?_
    refine Seg.nil ?_
    refine At.then_ ?_
    refine Cd.condk rfl (fun h18 => ?_) (fun h18 => ?_)
    · exfalso; omega
    · refine Cd.skip ?_
      refine At.then_ ?_
      refine Cd.seq ?_
      refine Cd.anyE (by kernel_rfl) (fun w23 hE23 => ?_)
      replace hE4 := Ext.trans hE4 hE23
      replace hB4 := hB4.ext hE23
      replace hE3 := Ext.trans hE3 hE23
      replace hB3 := hB3.ext hE23
      replace hE0 := Ext.trans hE0 hE23
      refine SegA.pure 0 rfl (by kernel_rfl) (by kernel_rfl) (by kernel_rfl) rfl rfl (fun _ => Yd.fieldAddr rfl rfl) ?_
      refine SegA.pure 4 rfl (by kernel_rfl) (by kernel_rfl) (by kernel_rfl) rfl rfl (fun _ => Yd.fieldAddr rfl rfl) ?_
      refine SegA.held 10 ?_
      refine SegG.take 1 rfl (by kernel_rfl) (by kernel_rfl) (by kernel_rfl) (by kernel_rfl) (by kernel_rfl) rfl rfl (fun w' hw' => Yd.load1 rfl rfl ((hB3.ext hw').row _ _ rfl)) ?_
      refine SegG.take 5 rfl (by kernel_rfl) (by kernel_rfl) (by kernel_rfl) (by kernel_rfl) (by kernel_rfl) rfl rfl (fun w' hw' => Yd.load1 rfl rfl ((hB4.ext hw').row _ _ rfl)) ?_
      refine SegG.oneSeg (o := ⟨_, _, _, _, _, _⟩) 2 rfl (by kernel_rfl) ?_
      (refine Seg.call rfl rfl (own_of rfl) rfl (held_any _ _) ?_; rintro _ w30 ⟨rfl, hE30⟩)
      replace hE23 := Ext.trans hE23 hE30
      replace hE4 := Ext.trans hE4 hE30
      replace hB4 := hB4.ext hE30
      replace hE3 := Ext.trans hE3 hE30
      replace hB3 := hB3.ext hE30
      replace hE0 := Ext.trans hE0 hE30
      refine SegG.back rfl (by first | assumption | exact Ext.refl _) ?_
      refine SegG.take 3 rfl (by kernel_rfl) (by kernel_rfl) (by kernel_rfl) (by kernel_rfl) (by kernel_rfl) rfl rfl (fun w' hw' => Yd.min2 rfl rfl) ?_
      refine SegG.oneSeg (o := ⟨_, _, _, _, _, _⟩) 6 rfl (by kernel_rfl) ?_
      (refine Seg.call rfl rfl (own_of rfl) rfl (held_any _ _) ?_; rintro _ w34 ⟨rfl, hE34⟩)
      replace hE30 := Ext.trans hE30 hE34
      replace hE23 := Ext.trans hE23 hE34
      replace hE4 := Ext.trans hE4 hE34
      replace hB4 := hB4.ext hE34
      replace hE3 := Ext.trans hE3 hE34
      replace hB3 := hB3.ext hE34
      replace hE0 := Ext.trans hE0 hE34
      refine SegG.back rfl (by first | assumption | exact Ext.refl _) ?_
      refine SegG.take 7 rfl (by kernel_rfl) (by kernel_rfl) (by kernel_rfl) (by kernel_rfl) (by kernel_rfl) rfl rfl (fun w' hw' => Yd.min2 rfl rfl) ?_
      refine SegG.oneSeg (o := ⟨_, _, _, _, _, _⟩) 8 rfl (by kernel_rfl) ?_
      (refine Seg.call rfl rfl (own_of rfl) rfl (compare_any _ _ _) ?_; rintro _ w38 ⟨⟨cc, rfl, hcc⟩, hE38⟩)
      replace hE34 := Ext.trans hE34 hE38
      replace hE30 := Ext.trans hE30 hE38
      replace hE23 := Ext.trans hE23 hE38
      replace hE4 := Ext.trans hE4 hE38
      replace hB4 := hB4.ext hE38
      replace hE3 := Ext.trans hE3 hE38
      replace hB3 := hB3.ext hE38
      replace hE0 := Ext.trans hE0 hE38
      refine SegG.back rfl (by first | assumption | exact Ext.refl _) ?_
      refine SegG.take 9 rfl (by kernel_rfl) (by kernel_rfl) (by kernel_rfl) (by kernel_rfl) (by kernel_rfl) rfl rfl (fun w' hw' => Yd.assign rfl) ?_
      refine SegG.done (by kernel_rfl) ?_
      refine At.then_ ?_
      refine Cd.ret ?_
      exact At.ret Try.results24 (.tmp rfl .nil) ⟨⟨_, rfl, hcc⟩, hE0⟩
  · rw [if_neg hp]
    refine Cd.seq ?_
    refine Cd.region ?_
    refine Seg.box rfl rfl rfl (fun w3 b3 hE3 hB3 hb3 => ?_)
    have hlt3_0 := Nat.le_trans hE0.size hb3
    replace hE0 := Ext.trans hE0 hE3
    refine Seg.box rfl rfl rfl (fun w4 b4 hE4 hB4 hb4 => ?_)
    have hlt4_0 := Nat.le_trans hE3.size hb4
    have hlt4_1 := Nat.lt_of_lt_of_le hB3.lt hb4
    have hlt4_2 := Nat.le_trans hE0.size hb4
    replace hE3 := Ext.trans hE3 hE4
    replace hB3 := hB3.ext hE4
    replace hE0 := Ext.trans hE0 hE4
    refine Seg.step rfl rfl (Yd.assign rfl) ?_
    refine Seg.nil ?_
    refine At.then_ ?_
    refine Cd.seq ?_
    refine Cd.seq ?_
    refine Cd.region ?_
    refine Seg.step rfl rfl (Yd.fieldAddr rfl rfl) ?_
    refine Seg.step rfl rfl (Yd.load1 rfl rfl (hB3.row _ _ rfl)) ?_
    refine Seg.step rfl rfl (Yd.fieldAddr rfl rfl) ?_
    refine Seg.step rfl rfl (Yd.load1 rfl rfl (hB4.row _ _ rfl)) ?_
    refine Seg.step rfl rfl (Yd.neq rfl rfl) ?_
    refine Seg.nil ?_
    refine At.then_ ?_
    refine Cd.condk rfl (fun h18 => ?_) (fun h18 => ?_)
    · refine Cd.seq ?_
      refine Cd.region ?_
      refine Seg.step rfl rfl (Yd.fieldAddr rfl rfl) ?_
      refine Seg.step rfl rfl (Yd.load1 rfl rfl (hB3.row _ _ rfl)) ?_
      refine Seg.step rfl rfl (Yd.fieldAddr rfl rfl) ?_
      refine Seg.step rfl rfl (Yd.load1 rfl rfl (hB4.row _ _ rfl)) ?_
      (refine Seg.call rfl rfl (own_of rfl) rfl (compare_any _ _ _) ?_; rintro _ w26 ⟨⟨cc, rfl, hcc⟩, hE26⟩)
      replace hE4 := Ext.trans hE4 hE26
      replace hB4 := hB4.ext hE26
      replace hE3 := Ext.trans hE3 hE26
      replace hB3 := hB3.ext hE26
      replace hE0 := Ext.trans hE0 hE26
      refine Seg.step rfl rfl (Yd.assign rfl) ?_
      refine Seg.nil ?_
      refine At.then_ ?_
      refine Cd.ret ?_
      refine At.then_ret ?_
      exact At.ret Try.results24 (.tmp rfl .nil) ⟨⟨_, rfl, hcc⟩, hE0⟩
    · exfalso; omega
end Go.Proofs.Ytccppgpedlfjdaa
