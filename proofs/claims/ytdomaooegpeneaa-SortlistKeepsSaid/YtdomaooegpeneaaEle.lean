/- Addresses, and addresses with their places; how they are compared. -/
import Derived.Test.YtdomaooegpeneaaSrp
import Derived.Test.YtdomaooegpeneaaWkt
namespace Go.Proofs.Ytdomaooegpeneaa
open Go Go.RowKit
structure Adr where
  fam : Int
  i0 : Int
  i1 : Int
  i2 : Int
  i3 : Int
  i4 : Int
  i5 : Int
  i6 : Int
  i7 : Int
  i8 : Int
  i9 : Int
  i10 : Int
  i11 : Int
  i12 : Int
  i13 : Int
  i14 : Int
  i15 : Int
  zone : Int
def Adr.cells (a : Adr) : List Value := [.int .i64 a.fam, .int .u8 a.i0, .int .u8 a.i1, .int .u8 a.i2, .int .u8 a.i3, .int .u8 a.i4, .int .u8 a.i5, .int .u8 a.i6, .int .u8 a.i7, .int .u8 a.i8, .int .u8 a.i9, .int .u8 a.i10, .int .u8 a.i11, .int .u8 a.i12, .int .u8 a.i13, .int .u8 a.i14, .int .u8 a.i15, .int .i64 a.zone]
abbrev El := Adr × Int
def cel (x : El) : List Value := x.1.cells ++ [.int .i64 x.2]
def key (x : El) : Int := x.2
theorem celK (x : El) : (cel x).length = 19 := rfl
theorem celOne (x : El) : ∀ c ∈ cel x, c.oneCell' = true := by
  intro c hc
  simp only [cel, Adr.cells, List.cons_append, List.nil_append, List.mem_cons, List.not_mem_nil, or_false] at hc
  rcases hc with rfl | rfl | rfl | rfl | rfl | rfl | rfl | rfl | rfl | rfl | rfl | rfl | rfl | rfl | rfl | rfl | rfl | rfl | rfl <;> rfl
theorem neqSelf {P : Program} {n : Nat} {fr : Fr} {w : World} {T U U' : TypeId} {x y : Operand} {k : IntKind} {i : Int} (hx : Fr.ev fr x = some (.int k i)) (hy : Fr.ev fr y = some (.int k i)) : Yd P n (.binOp .neq U x y U') T fr w (.bool false) w := by
  have := Yd.neq (P := P) (n := n) (w := w) (T := T) (U := U) (U' := U') hx hy
  simpa using this
theorem nan_any (i : Int) (w : World) : Ret Try.prog 22 #[.int .i64 i] w fun v w' => v = .bool false ∧ Ext w w' := by
  have hE0 := Ext.refl w
  refine Ret.body Try.func22 rfl Try.ntmps22 rfl ?_
  refine Cd.seq ?_
  refine Cd.region ?_
  refine Seg.step rfl rfl (Yd.assign rfl) ?_
  refine Seg.nil ?_
  refine At.then_ ?_
  refine Cd.seq ?_
  refine Cd.region ?_
  refine Seg.step rfl rfl (Yd.move rfl) ?_
  refine Seg.step rfl rfl (Yd.move rfl) ?_
  refine Seg.step rfl rfl (v := .bool false) (neqSelf rfl rfl) ?_
  refine Seg.step rfl rfl (Yd.assign rfl) ?_
  refine Seg.nil ?_
  refine At.then_ ?_
  refine Cd.ret ?_
  exact At.ret Try.results22 (.tmp rfl .nil) ⟨rfl, hE0⟩
theorem compare_any (i j : Int) (w : World) : Ret Try.prog 16 #[.int .i64 i, .int .i64 j] w fun v w' => (∃ c : Int, v = .int .i64 c ∧ (c < 0 ↔ i < j)) ∧ Ext w w' := by
  have hE0 := Ext.refl w
  refine Ret.body Try.func16 rfl Try.ntmps16 rfl ?_
  refine Cd.seq ?_
  refine Cd.region ?_
  refine Seg.step rfl rfl (Yd.assign rfl) ?_
  refine Seg.nil ?_
  refine At.then_ ?_
  refine Cd.seq ?_
  refine Cd.region ?_
  refine Seg.step rfl rfl (Yd.move rfl) ?_
  (refine Seg.call rfl rfl (own_of rfl) rfl (nan_any _ _) ?_; rintro _ w9 ⟨rfl, hE9⟩)
  replace hE0 := Ext.trans hE0 hE9
  refine Seg.step rfl rfl (Yd.assign rfl) ?_
  refine Seg.nil ?_
  refine At.then_ ?_
  refine Cd.seq ?_
  refine Cd.region ?_
  refine Seg.step rfl rfl (Yd.move rfl) ?_
  (refine Seg.call rfl rfl (own_of rfl) rfl (nan_any _ _) ?_; rintro _ w16 ⟨rfl, hE16⟩)
  replace hE9 := Ext.trans hE9 hE16
  replace hE0 := Ext.trans hE0 hE16
  refine Seg.step rfl rfl (Yd.assign rfl) ?_
  refine Seg.nil ?_
  refine At.then_ ?_
  refine Cd.seq ?_
  refine Cd.seq ?_
  refine Cd.region ?_
  refine Seg.step rfl rfl (Yd.move rfl) ?_
  refine Seg.nil ?_
  refine At.then_ ?_
  refine Cd.condF rfl ?_
  refine Cd.skip ?_
  refine At.then_ ?_
  refine Cd.seq ?_
  refine Cd.seq ?_
  refine Cd.region ?_
  refine Seg.step rfl rfl (Yd.move rfl) ?_
  refine Seg.nil ?_
  refine At.then_ ?_
  refine Cd.condF rfl ?_
  refine Cd.skip ?_
  refine At.then_ ?_
  refine Cd.seq ?_
  refine Cd.seq ?_
  refine Cd.region ?_
  refine Seg.step rfl rfl (Yd.move rfl) ?_
  refine Seg.step rfl rfl (Yd.move rfl) ?_
  refine Seg.step rfl rfl (Yd.lss rfl rfl) ?_
  refine Seg.nil ?_
  refine At.then_ ?_
  refine Cd.condk rfl (fun h46 => ?_) (fun h46 => ?_)
  · refine Cd.seq ?_
    refine Cd.region ?_
    refine Seg.step rfl rfl (Yd.assign rfl) ?_
    refine Seg.nil ?_
    refine At.then_ ?_
    refine Cd.ret ?_
    refine At.then_ret ?_
    exact At.ret Try.results16 (.tmp rfl .nil) ⟨⟨_, rfl, by omega⟩, hE0⟩
  · refine Cd.skip ?_
    refine At.then_ ?_
    refine Cd.seq ?_
    refine Cd.seq ?_
    refine Cd.region ?_
    refine Seg.step rfl rfl (Yd.move rfl) ?_
    refine Seg.step rfl rfl (Yd.move rfl) ?_
    refine Seg.step rfl rfl (Yd.gtr rfl rfl) ?_
    refine Seg.nil ?_
    refine At.then_ ?_
    refine Cd.condk rfl (fun h67 => ?_) (fun h67 => ?_)
    · refine Cd.seq ?_
      refine Cd.region ?_
      refine Seg.step rfl rfl (Yd.assign rfl) ?_
      refine Seg.nil ?_
      refine At.then_ ?_
      refine Cd.ret ?_
      refine At.then_ret ?_
      exact At.ret Try.results16 (.tmp rfl .nil) ⟨⟨_, rfl, by omega⟩, hE0⟩
    · refine Cd.skip ?_
      refine At.then_ ?_
      refine Cd.seq ?_
      refine Cd.region ?_
      refine Seg.step rfl rfl (Yd.assign rfl) ?_
      refine Seg.nil ?_
      refine At.then_ ?_
      refine Cd.ret ?_
      exact At.ret Try.results16 (.tmp rfl .nil) ⟨⟨_, rfl, by omega⟩, hE0⟩
theorem cmp_any (x y : El) (w : World) : Ret Try.prog 15 #[.agg (cel x).toArray, .agg (cel y).toArray] w fun v w' => (∃ c : Int, v = .int .i64 c ∧ (c < 0 ↔ key x < key y)) ∧ Ext w w' := by
  have hE0 := Ext.refl w
  refine Ret.body Try.func15 rfl Try.ntmps15 rfl ?_
  refine Cd.seq ?_
  refine Cd.region ?_
  refine Seg.box rfl rfl rfl (fun w3 b3 hE3 hB3 hb3 => ?_)
  have hlt3_0 := Nat.le_trans hE0.size hb3
  replace hE0 := Ext.trans hE0 hE3
  refine Seg.box rfl rfl rfl (fun w4 b4 hE4 hB4 hb4 => ?_)
  have hlt4_0 := Nat.le_trans hE3.size hb4
  have hlt4_1 := Nat.lt_of_lt_of_le hB3.lt hb4
  have hlt4_2 := Nat.le_trans hE0.size hb4
  replace hE3 := Ext.trans hE3 hE4
  replace hB3 := hB3.ext hE4
  replace hE0 := Ext.trans hE0 hE4
  refine Seg.step rfl rfl (Yd.assign rfl) ?_
  refine Seg.nil ?_
  refine At.then_ ?_
  refine Cd.seq ?_
  refine Cd.region ?_
  refine Seg.step rfl rfl (Yd.fieldAddr rfl rfl) ?_
  refine Seg.step rfl rfl (Yd.load1 rfl rfl (hB3.row _ _ rfl)) ?_
  refine Seg.step rfl rfl (Yd.fieldAddr rfl rfl) ?_
  refine Seg.step rfl rfl (Yd.load1 rfl rfl (hB4.row _ _ rfl)) ?_
  (refine Seg.call rfl rfl (own_of rfl) rfl (compare_any _ _ _) ?_; rintro _ w14 ⟨⟨cc, rfl, hcc⟩, hE14⟩)
  replace hE4 := Ext.trans hE4 hE14
  replace hB4 := hB4.ext hE14
  replace hE3 := Ext.trans hE3 hE14
  replace hB3 := hB3.ext hE14
  replace hE0 := Ext.trans hE0 hE14
  refine Seg.step rfl rfl (Yd.assign rfl) ?_
  refine Seg.nil ?_
  refine At.then_ ?_
  refine Cd.ret ?_
  exact At.ret Try.results15 (.tmp rfl .nil) ⟨⟨_, rfl, hcc⟩, hE0⟩
end Go.Proofs.Ytdomaooegpeneaa
