/- Records compared: by what they hold. -/
import Derived.Test.YtccppgpedlfjdaaWkq
import Derived.Test.YtccppgpedlfjdaaBrc
import Derived.Test.YtccppgpedlfjdaaWky
namespace Go.Proofs.Ytccppgpedlfjdaa
open Go Go.RowKit
def W64 (i : Int) : Prop := (Lit.int .i64 i).wf = true
def W8 (i : Int) : Prop := (Lit.int .u8 i).wf = true
/-- A record's address, as integers. -/
def Rec.adr (r : Rec) : Int × Int × List Int := (r.fam, r.zone, [r.i0, r.i1, r.i2, r.i3, r.i4, r.i5, r.i6, r.i7, r.i8, r.i9, r.i10, r.i11, r.i12, r.i13, r.i14, r.i15])
def Rec.nums (r : Rec) : List Int := [r.m0, r.m1, r.m2, r.m3, r.m4]
def Rec.adrV (r : Rec) : List Value := [.int .i64 r.fam, .int .u8 r.i0, .int .u8 r.i1, .int .u8 r.i2, .int .u8 r.i3, .int .u8 r.i4, .int .u8 r.i5, .int .u8 r.i6, .int .u8 r.i7, .int .u8 r.i8, .int .u8 r.i9, .int .u8 r.i10, .int .u8 r.i11, .int .u8 r.i12, .int .u8 r.i13, .int .u8 r.i14, .int .u8 r.i15, .int .i64 r.zone]
def Rec.numV (r : Rec) : List Value := [.int .i64 r.m0, .int .i64 r.m1, .int .i64 r.m2, .int .i64 r.m3, .int .i64 r.m4]
def Rec.adrL (r : Rec) : List Lit := [.int .i64 r.fam, .int .u8 r.i0, .int .u8 r.i1, .int .u8 r.i2, .int .u8 r.i3, .int .u8 r.i4, .int .u8 r.i5, .int .u8 r.i6, .int .u8 r.i7, .int .u8 r.i8, .int .u8 r.i9, .int .u8 r.i10, .int .u8 r.i11, .int .u8 r.i12, .int .u8 r.i13, .int .u8 r.i14, .int .u8 r.i15, .int .i64 r.zone]
def Rec.numL (r : Rec) : List Lit := [.int .i64 r.m0, .int .i64 r.m1, .int .i64 r.m2, .int .i64 r.m3, .int .i64 r.m4]
/-- Its integers are such as their types have. -/
def WfR (r : Rec) : Prop := W64 r.fam ∧ W64 r.zone ∧ (∀ i ∈ [r.i0, r.i1, r.i2, r.i3, r.i4, r.i5, r.i6, r.i7, r.i8, r.i9, r.i10, r.i11, r.i12, r.i13, r.i14, r.i15], W8 i) ∧ ∀ i ∈ r.nums, W64 i
/-- What a record holds. -/
def Rec.key (r : Rec) : (List (List UInt8) × List (List UInt8) × List (List UInt8)) × (List Int × (Int × Int × List Int) × List Int) × List UInt8 := ((r.nm, r.tg, r.ml), ([r.ty, r.cl, r.ttl, r.pri, r.wt, r.pt], r.adr, r.nums), r.raw)
theorem adr_lits (r : Rec) (h : WfR r) : Try.prog.keyLits 3 41 r.adrV = some r.adrL := by
  obtain ⟨h1, h2, h3, _⟩ := h
  simp only [List.mem_cons, List.not_mem_nil, or_false, forall_eq_or_imp, forall_eq] at h3
  unfold W64 at h1 h2
  unfold W8 at h3
  have eA := cellsOf_run Try.sizeOf39
  have eB := cellsOf_run Try.sizeOf41
  have e3 := cellsOf_run Try.sizeOf3
  have e5 := cellsOf_run Try.sizeOf5
  have e16 : List.range 16 = [0, 1, 2, 3, 4, 5, 6, 7, 8, 9, 10, 11, 12, 13, 14, 15] := rfl
  simp [e16, Program.keyLits, Try.underlying41, Try.underlying39, Try.underlying3, Try.underlying5, eA, eB, e3, e5, Rec.adrV, Rec.adrL, h1, h2, h3]
theorem num_lits (r : Rec) (h : WfR r) : Try.prog.keyLits 2 42 r.numV = some r.numL := by
  obtain ⟨_, _, _, h3⟩ := h
  simp only [Rec.nums, List.mem_cons, List.not_mem_nil, or_false, forall_eq_or_imp, forall_eq] at h3
  unfold W64 at h3
  have eC := cellsOf_run Try.sizeOf42
  have e3 := cellsOf_run Try.sizeOf3
  have e16 : List.range 5 = [0, 1, 2, 3, 4] := rfl
  simp [e16, Program.keyLits, Try.underlying42, Try.underlying3, eC, e3, Rec.numV, Rec.numL, h3]
theorem adr_eq (r s : Rec) : r.adrL = s.adrL ↔ r.adr = s.adr := by
  simp only [Rec.adrL, Rec.adr, List.cons.injEq, Lit.int.injEq, true_and, and_true, Prod.mk.injEq]
  constructor
  · rintro ⟨h0, h1, h2, h3, h4, h5, h6, h7, h8, h9, h10, h11, h12, h13, h14, h15, h16, h17⟩
    exact ⟨h0, h17, h1, h2, h3, h4, h5, h6, h7, h8, h9, h10, h11, h12, h13, h14, h15, h16⟩
  · rintro ⟨h0, h17, h1, h2, h3, h4, h5, h6, h7, h8, h9, h10, h11, h12, h13, h14, h15, h16⟩
    exact ⟨h0, h1, h2, h3, h4, h5, h6, h7, h8, h9, h10, h11, h12, h13, h14, h15, h16, h17⟩
theorem num_eq (r s : Rec) : r.numL = s.numL ↔ r.nums = s.nums := by
  simp [Rec.numL, Rec.nums]
set_option maxHeartbeats 400000 in
theorem same13 (r s : Rec) (w : World) (hr : RecAt w r) (hs : RecAt w s) (fr : FitR r) (wr : WfR r) (ws : WfR s) :
    Ret Try.prog 16 #[.agg r.cells.toArray, .agg s.cells.toArray] w fun v w' => (∃ b : Bool, v = .bool b ∧ (b = true ↔ r.key = s.key)) ∧ Ext w w' := by
  have hE0 := Ext.refl w
  refine Ret.body Try.func16 rfl Try.ntmps16 rfl ?_
  refine Cd.seq ?_
  refine Cd.region ?_
  refine Seg.box rfl rfl rfl (fun w3 b3 hE3 hB3 hb3 => ?_)
  have hlt3_0 := Nat.le_trans hE0.size hb3
  replace hr := hr.ext hE3
  replace hs := hs.ext hE3
  replace hE0 := Ext.trans hE0 hE3
  refine Seg.box rfl rfl rfl (fun w4 b4 hE4 hB4 hb4 => ?_)
  have hlt4_0 := Nat.le_trans hE3.size hb4
  have hlt4_1 := Nat.lt_of_lt_of_le hB3.lt hb4
  have hlt4_2 := Nat.le_trans hE0.size hb4
  replace hE3 := Ext.trans hE3 hE4
  replace hB3 := hB3.ext hE4
  replace hr := hr.ext hE4
  replace hs := hs.ext hE4
  replace hE0 := Ext.trans hE0 hE4
  refine Seg.step rfl rfl (Yd.assign rfl) ?_
  refine Seg.nil ?_
  refine At.then_ ?_
  refine Cd.seq ?_
  refine Cd.region ?_
  refine Seg.step rfl rfl (Yd.fieldAddr rfl rfl) ?_
  refine Seg.step rfl rfl (Yd.load1 rfl rfl (hB3.row _ _ rfl)) ?_
  refine Seg.step rfl rfl (Yd.fieldAddr rfl rfl) ?_
  refine Seg.step rfl rfl (Yd.load1 rfl rfl (hB4.row _ _ rfl)) ?_
  (refine Seg.call rfl rfl (own_of rfl) rfl (exact_any r.nm s.nm _ _ _ hr.1 hs.1 (by have := fr.1.1; omega)) ?_; rintro _ w14 ⟨rfl, hE14⟩)
  replace hE4 := Ext.trans hE4 hE14
  replace hB4 := hB4.ext hE14
  replace hE3 := Ext.trans hE3 hE14
  replace hB3 := hB3.ext hE14
  replace hr := hr.ext hE14
  replace hs := hs.ext hE14
  replace hE0 := Ext.trans hE0 hE14
  refine Seg.step rfl rfl (Yd.move rfl) ?_
  refine Seg.gsplitp rfl rfl (fun h16 => ?_) (fun h16 => ?_)
  · refine Seg.step rfl rfl (Yd.fieldAddr rfl rfl) ?_
    refine Seg.step rfl rfl (Yd.load1 rfl rfl (hB3.row _ _ rfl)) ?_
    refine Seg.step rfl rfl (Yd.fieldAddr rfl rfl) ?_
    refine Seg.step rfl rfl (Yd.load1 rfl rfl (hB4.row _ _ rfl)) ?_
    refine Seg.step rfl rfl (Yd.eql rfl rfl) ?_
    refine Seg.step rfl rfl (Yd.pickT rfl rfl) ?_
    refine Seg.step rfl rfl (Yd.move rfl) ?_
    refine Seg.gsplitp rfl rfl (fun h25 => ?_) (fun h25 => ?_)
    · refine Seg.step rfl rfl (Yd.fieldAddr rfl rfl) ?_
      refine Seg.step rfl rfl (Yd.load1 rfl rfl (hB3.row _ _ rfl)) ?_
      refine Seg.step rfl rfl (Yd.fieldAddr rfl rfl) ?_
      refine Seg.step rfl rfl (Yd.load1 rfl rfl (hB4.row _ _ rfl)) ?_
      refine Seg.step rfl rfl (Yd.eql rfl rfl) ?_
      refine Seg.step rfl rfl (Yd.pickT rfl rfl) ?_
      refine Seg.step rfl rfl (Yd.move rfl) ?_
      refine Seg.gsplitp rfl rfl (fun h34 => ?_) (fun h34 => ?_)
      · refine Seg.step rfl rfl (Yd.fieldAddr rfl rfl) ?_
        refine Seg.step rfl rfl (Yd.load1 rfl rfl (hB3.row _ _ rfl)) ?_
        refine Seg.step rfl rfl (Yd.fieldAddr rfl rfl) ?_
        refine Seg.step rfl rfl (Yd.load1 rfl rfl (hB4.row _ _ rfl)) ?_
        refine Seg.step rfl rfl (Yd.eql rfl rfl) ?_
        refine Seg.step rfl rfl (Yd.pickT rfl rfl) ?_
        refine Seg.step rfl rfl (Yd.move rfl) ?_
        refine Seg.gsplitp rfl rfl (fun h43 => ?_) (fun h43 => ?_)
        · refine Seg.step rfl rfl (Yd.fieldAddr rfl rfl) ?_
          refine Seg.step rfl rfl (Yd.loadN rfl rfl rfl (show Row _ (Addr.add ⟨b3, 0, none⟩ 4) r.adrV from hB3.row.part 4 18)) ?_
          refine Seg.step rfl rfl (Yd.fieldAddr rfl rfl) ?_
          refine Seg.step rfl rfl (Yd.loadN rfl rfl rfl (show Row _ (Addr.add ⟨b4, 0, none⟩ 4) s.adrV from hB4.row.part 4 18)) ?_
          refine Seg.step rfl rfl (Yd.eqlD rfl rfl (by kernel_rfl) (by kernel_rfl) (by kernel_rfl) (by kernel_rfl) (adr_lits r wr) (adr_lits s ws) (adr_eq r s)) ?_
          refine Seg.step rfl rfl (Yd.pickT rfl rfl) ?_
          refine Seg.step rfl rfl (Yd.move rfl) ?_
          refine Seg.gsplitp rfl rfl (fun h52 => ?_) (fun h52 => ?_)
          · refine Seg.step rfl rfl (Yd.fieldAddr rfl rfl) ?_
            refine Seg.step rfl rfl (Yd.load1 rfl rfl (hB3.row _ _ rfl)) ?_
            refine Seg.step rfl rfl (Yd.fieldAddr rfl rfl) ?_
            refine Seg.step rfl rfl (Yd.load1 rfl rfl (hB4.row _ _ rfl)) ?_
            (refine Seg.call rfl rfl (own_of rfl) rfl (exact_any r.tg s.tg _ _ _ hr.2.1 hs.2.1 (by have := fr.2.1.1; omega)) ?_; rintro _ w58 ⟨rfl, hE58⟩)
            replace hE14 := Ext.trans hE14 hE58
            replace hE4 := Ext.trans hE4 hE58
            replace hB4 := hB4.ext hE58
            replace hE3 := Ext.trans hE3 hE58
            replace hB3 := hB3.ext hE58
            replace hr := hr.ext hE58
            replace hs := hs.ext hE58
            replace hE0 := Ext.trans hE0 hE58
            refine Seg.step rfl rfl (Yd.pickT rfl rfl) ?_
            refine Seg.step rfl rfl (Yd.move rfl) ?_
            refine Seg.gsplitp rfl rfl (fun h61 => ?_) (fun h61 => ?_)
            · refine Seg.step rfl rfl (Yd.fieldAddr rfl rfl) ?_
              refine Seg.step rfl rfl (Yd.load1 rfl rfl (hB3.row _ _ rfl)) ?_
              refine Seg.step rfl rfl (Yd.fieldAddr rfl rfl) ?_
              refine Seg.step rfl rfl (Yd.load1 rfl rfl (hB4.row _ _ rfl)) ?_
              (refine Seg.call rfl rfl (own_of rfl) rfl (exact_any r.ml s.ml _ _ _ hr.2.2 hs.2.2 (by have := fr.2.2.1.1; omega)) ?_; rintro _ w67 ⟨rfl, hE67⟩)
              replace hE58 := Ext.trans hE58 hE67
              replace hE14 := Ext.trans hE14 hE67
              replace hE4 := Ext.trans hE4 hE67
              replace hB4 := hB4.ext hE67
              replace hE3 := Ext.trans hE3 hE67
              replace hB3 := hB3.ext hE67
              replace hr := hr.ext hE67
              replace hs := hs.ext hE67
              replace hE0 := Ext.trans hE0 hE67
              refine Seg.step rfl rfl (Yd.pickT rfl rfl) ?_
              refine Seg.step rfl rfl (Yd.move rfl) ?_
              refine Seg.gsplitp rfl rfl (fun h70 => ?_) (fun h70 => ?_)
              · refine Seg.step rfl rfl (Yd.fieldAddr rfl rfl) ?_
                refine Seg.step rfl rfl (Yd.load1 rfl rfl (hB3.row _ _ rfl)) ?_
                refine Seg.step rfl rfl (Yd.fieldAddr rfl rfl) ?_
                refine Seg.step rfl rfl (Yd.load1 rfl rfl (hB4.row _ _ rfl)) ?_
                refine Seg.step rfl rfl (Yd.eql rfl rfl) ?_
                refine Seg.step rfl rfl (Yd.pickT rfl rfl) ?_
                refine Seg.step rfl rfl (Yd.move rfl) ?_
                refine Seg.gsplitp rfl rfl (fun h79 => ?_) (fun h79 => ?_)
                · refine Seg.step rfl rfl (Yd.fieldAddr rfl rfl) ?_
                  refine Seg.step rfl rfl (Yd.load1 rfl rfl (hB3.row _ _ rfl)) ?_
                  refine Seg.step rfl rfl (Yd.fieldAddr rfl rfl) ?_
                  refine Seg.step rfl rfl (Yd.load1 rfl rfl (hB4.row _ _ rfl)) ?_
                  refine Seg.step rfl rfl (Yd.eql rfl rfl) ?_
                  refine Seg.step rfl rfl (Yd.pickT rfl rfl) ?_
                  refine Seg.step rfl rfl (Yd.move rfl) ?_
                  refine Seg.gsplitp rfl rfl (fun h88 => ?_) (fun h88 => ?_)
                  · refine Seg.step rfl rfl (Yd.fieldAddr rfl rfl) ?_
                    refine Seg.step rfl rfl (Yd.load1 rfl rfl (hB3.row _ _ rfl)) ?_
                    refine Seg.step rfl rfl (Yd.fieldAddr rfl rfl) ?_
                    refine Seg.step rfl rfl (Yd.load1 rfl rfl (hB4.row _ _ rfl)) ?_
                    refine Seg.step rfl rfl (Yd.eql rfl rfl) ?_
                    refine Seg.step rfl rfl (Yd.pickT rfl rfl) ?_
                    refine Seg.step rfl rfl (Yd.move rfl) ?_
                    refine Seg.gsplitp rfl rfl (fun h97 => ?_) (fun h97 => ?_)
                    · refine Seg.step rfl rfl (Yd.fieldAddr rfl rfl) ?_
                      refine Seg.step rfl rfl (Yd.loadN rfl rfl rfl (show Row _ (Addr.add ⟨b3, 0, none⟩ 27) r.numV from hB3.row.part 27 5)) ?_
                      refine Seg.step rfl rfl (Yd.fieldAddr rfl rfl) ?_
                      refine Seg.step rfl rfl (Yd.loadN rfl rfl rfl (show Row _ (Addr.add ⟨b4, 0, none⟩ 27) s.numV from hB4.row.part 27 5)) ?_
                      refine Seg.step rfl rfl (Yd.eqlD rfl rfl (by kernel_rfl) (by kernel_rfl) (by kernel_rfl) (by kernel_rfl) (num_lits r wr) (num_lits s ws) (num_eq r s)) ?_
                      refine Seg.step rfl rfl (Yd.pickT rfl rfl) ?_
                      refine Seg.step rfl rfl (Yd.move rfl) ?_
                      refine Seg.gsplitp rfl rfl (fun h106 => ?_) (fun h106 => ?_)
                      · refine Seg.step rfl rfl (Yd.fieldAddr rfl rfl) ?_
                        refine Seg.step rfl rfl (Yd.load1 rfl rfl (hB3.row _ _ rfl)) ?_
                        refine Seg.step rfl rfl (Yd.fieldAddr rfl rfl) ?_
                        refine Seg.step rfl rfl (Yd.load1 rfl rfl (hB4.row _ _ rfl)) ?_
                        refine Seg.step rfl rfl (Yd.eqlS rfl rfl) ?_
                        refine Seg.step rfl rfl (Yd.pickT rfl rfl) ?_
                        refine Seg.step rfl rfl (Yd.assign rfl) ?_
                        refine Seg.nil ?_
                        refine At.then_ ?_
                        refine Cd.ret ?_
                        exact At.ret Try.results16 (.tmp rfl .nil) ⟨⟨_, rfl, by (rw [decide_eq_true_iff]); constructor <;> intro hk; (simp only [Rec.key, *]); (simp only [Rec.key, Prod.mk.injEq] at hk; exact hk.2.2)⟩, hE0⟩
                      · refine Seg.skip rfl rfl ?_
                        refine Seg.skip rfl rfl ?_
                        refine Seg.skip rfl rfl ?_
                        refine Seg.skip rfl rfl ?_
                        refine Seg.skip rfl rfl ?_
                        refine Seg.step rfl rfl (Yd.pickF rfl rfl) ?_
                        refine Seg.step rfl rfl (Yd.assign rfl) ?_
                        refine Seg.nil ?_
                        refine At.then_ ?_
                        refine Cd.ret ?_
                        exact At.ret Try.results16 (.tmp rfl .nil) ⟨⟨false, rfl, by constructor <;> intro hk; (cases hk); (simp only [Rec.key, Prod.mk.injEq, List.cons.injEq, and_true] at hk; simp_all)⟩, hE0⟩
                    · refine Seg.skip rfl rfl ?_
                      refine Seg.skip rfl rfl ?_
                      refine Seg.skip rfl rfl ?_
                      refine Seg.skip rfl rfl ?_
                      refine Seg.skip rfl rfl ?_
                      refine Seg.step rfl rfl (Yd.pickF rfl rfl) ?_
                      refine Seg.step rfl rfl (Yd.move rfl) ?_
                      refine Seg.skip rfl rfl ?_
                      refine Seg.skip rfl rfl ?_
                      refine Seg.skip rfl rfl ?_
                      refine Seg.skip rfl rfl ?_
                      refine Seg.skip rfl rfl ?_
                      refine Seg.step rfl rfl (Yd.pickF rfl rfl) ?_
                      refine Seg.step rfl rfl (Yd.assign rfl) ?_
                      refine Seg.nil ?_
                      refine At.then_ ?_
                      refine Cd.ret ?_
                      exact At.ret Try.results16 (.tmp rfl .nil) ⟨⟨false, rfl, by constructor <;> intro hk; (cases hk); (simp only [Rec.key, Prod.mk.injEq, List.cons.injEq, and_true] at hk; simp_all)⟩, hE0⟩
                  · refine Seg.skip rfl rfl ?_
                    refine Seg.skip rfl rfl ?_
                    refine Seg.skip rfl rfl ?_
                    refine Seg.skip rfl rfl ?_
                    refine Seg.skip rfl rfl ?_
                    refine Seg.step rfl rfl (Yd.pickF rfl rfl) ?_
                    refine Seg.step rfl rfl (Yd.move rfl) ?_
                    refine Seg.skip rfl rfl ?_
                    refine Seg.skip rfl rfl ?_
                    refine Seg.skip rfl rfl ?_
                    refine Seg.skip rfl rfl ?_
                    refine Seg.skip rfl rfl ?_
                    refine Seg.step rfl rfl (Yd.pickF rfl rfl) ?_
                    refine Seg.step rfl rfl (Yd.move rfl) ?_
                    refine Seg.skip rfl rfl ?_
                    refine Seg.skip rfl rfl ?_
                    refine Seg.skip rfl rfl ?_
                    refine Seg.skip rfl rfl ?_
                    refine Seg.skip rfl rfl ?_
                    refine Seg.step rfl rfl (Yd.pickF rfl rfl) ?_
                    refine Seg.step rfl rfl (Yd.assign rfl) ?_
                    refine Seg.nil ?_
                    refine At.then_ ?_
                    refine Cd.ret ?_
                    exact At.ret Try.results16 (.tmp rfl .nil) ⟨⟨false, rfl, by constructor <;> intro hk; (cases hk); (simp only [Rec.key, Prod.mk.injEq, List.cons.injEq, and_true] at hk; simp_all)⟩, hE0⟩
                · refine Seg.skip rfl rfl ?_
                  refine Seg.skip rfl rfl ?_
                  refine Seg.skip rfl rfl ?_
                  refine Seg.skip rfl rfl ?_
                  refine Seg.skip rfl rfl ?_
                  refine Seg.step rfl rfl (Yd.pickF rfl rfl) ?_
                  refine Seg.step rfl rfl (Yd.move rfl) ?_
                  refine Seg.skip rfl rfl ?_
                  refine Seg.skip rfl rfl ?_
                  refine Seg.skip rfl rfl ?_
                  refine Seg.skip rfl rfl ?_
                  refine Seg.skip rfl rfl ?_
                  refine Seg.step rfl rfl (Yd.pickF rfl rfl) ?_
                  refine Seg.step rfl rfl (Yd.move rfl) ?_
                  refine Seg.skip rfl rfl ?_
                  refine Seg.skip rfl rfl ?_
                  refine Seg.skip rfl rfl ?_
                  refine Seg.skip rfl rfl ?_
                  refine Seg.skip rfl rfl ?_
                  refine Seg.step rfl rfl (Yd.pickF rfl rfl) ?_
                  refine Seg.step rfl rfl (Yd.move rfl) ?_
                  refine Seg.skip rfl rfl ?_
                  refine Seg.skip rfl rfl ?_
                  refine Seg.skip rfl rfl ?_
                  refine Seg.skip rfl rfl ?_
                  refine Seg.skip rfl rfl ?_
                  refine Seg.step rfl rfl (Yd.pickF rfl rfl) ?_
                  refine Seg.step rfl rfl (Yd.assign rfl) ?_
                  refine Seg.nil ?_
                  refine At.then_ ?_
                  refine Cd.ret ?_
                  exact At.ret Try.results16 (.tmp rfl .nil) ⟨⟨false, rfl, by constructor <;> intro hk; (cases hk); (simp only [Rec.key, Prod.mk.injEq, List.cons.injEq, and_true] at hk; simp_all)⟩, hE0⟩
              · refine Seg.skip rfl rfl ?_
                refine Seg.skip rfl rfl ?_
                refine Seg.skip rfl rfl ?_
                refine Seg.skip rfl rfl ?_
                refine Seg.skip rfl rfl ?_
                refine Seg.step rfl rfl (Yd.pickF rfl rfl) ?_
                refine Seg.step rfl rfl (Yd.move rfl) ?_
                refine Seg.skip rfl rfl ?_
                refine Seg.skip rfl rfl ?_
                refine Seg.skip rfl rfl ?_
                refine Seg.skip rfl rfl ?_
                refine Seg.skip rfl rfl ?_
                refine Seg.step rfl rfl (Yd.pickF rfl rfl) ?_
                refine Seg.step rfl rfl (Yd.move rfl) ?_
                refine Seg.skip rfl rfl ?_
                refine Seg.skip rfl rfl ?_
                refine Seg.skip rfl rfl ?_
                refine Seg.skip rfl rfl ?_
                refine Seg.skip rfl rfl ?_
                refine Seg.step rfl rfl (Yd.pickF rfl rfl) ?_
                refine Seg.step rfl rfl (Yd.move rfl) ?_
                refine Seg.skip rfl rfl ?_
                refine Seg.skip rfl rfl ?_
                refine Seg.skip rfl rfl ?_
                refine Seg.skip rfl rfl ?_
                refine Seg.skip rfl rfl ?_
                refine Seg.step rfl rfl (Yd.pickF rfl rfl) ?_
                refine Seg.step rfl rfl (Yd.move rfl) ?_
                refine Seg.skip rfl rfl ?_
                refine Seg.skip rfl rfl ?_
                refine Seg.skip rfl rfl ?_
                refine Seg.skip rfl rfl ?_
                refine Seg.skip rfl rfl ?_
                refine Seg.step rfl rfl (Yd.pickF rfl rfl) ?_
                refine Seg.step rfl rfl (Yd.assign rfl) ?_
                refine Seg.nil ?_
                refine At.then_ ?_
                refine Cd.ret ?_
                exact At.ret Try.results16 (.tmp rfl .nil) ⟨⟨false, rfl, by constructor <;> intro hk; (cases hk); (simp only [Rec.key, Prod.mk.injEq, List.cons.injEq, and_true] at hk; simp_all)⟩, hE0⟩
            · refine Seg.skip rfl rfl ?_
              refine Seg.skip rfl rfl ?_
              refine Seg.skip rfl rfl ?_
              refine Seg.skip rfl rfl ?_
              refine Seg.skip rfl rfl ?_
              refine Seg.step rfl rfl (Yd.pickF rfl rfl) ?_
              refine Seg.step rfl rfl (Yd.move rfl) ?_
              refine Seg.skip rfl rfl ?_
              refine Seg.skip rfl rfl ?_
              refine Seg.skip rfl rfl ?_
              refine Seg.skip rfl rfl ?_
              refine Seg.skip rfl rfl ?_
              refine Seg.step rfl rfl (Yd.pickF rfl rfl) ?_
              refine Seg.step rfl rfl (Yd.move rfl) ?_
              refine Seg.skip rfl rfl ?_
              refine Seg.skip rfl rfl ?_
              refine Seg.skip rfl rfl ?_
              refine Seg.skip rfl rfl ?_
              refine Seg.skip rfl rfl ?_
              refine Seg.step rfl rfl (Yd.pickF rfl rfl) ?_
              refine Seg.step rfl rfl (Yd.move rfl) ?_
              refine Seg.skip rfl rfl ?_
              refine Seg.skip rfl rfl ?_
              refine Seg.skip rfl rfl ?_
              refine Seg.skip rfl rfl ?_
              refine Seg.skip rfl rfl ?_
              refine Seg.step rfl rfl (Yd.pickF rfl rfl) ?_
              refine Seg.step rfl rfl (Yd.move rfl) ?_
              refine Seg.skip rfl rfl ?_
              refine Seg.skip rfl rfl ?_
              refine Seg.skip rfl rfl ?_
              refine Seg.skip rfl rfl ?_
              refine Seg.skip rfl rfl ?_
              refine Seg.step rfl rfl (Yd.pickF rfl rfl) ?_
              refine Seg.step rfl rfl (Yd.move rfl) ?_
              refine Seg.skip rfl rfl ?_
              refine Seg.skip rfl rfl ?_
              refine Seg.skip rfl rfl ?_
              refine Seg.skip rfl rfl ?_
              refine Seg.skip rfl rfl ?_
              refine Seg.step rfl rfl (Yd.pickF rfl rfl) ?_
              refine Seg.step rfl rfl (Yd.assign rfl) ?_
              refine Seg.nil ?_
              refine At.then_ ?_
              refine Cd.ret ?_
              exact At.ret Try.results16 (.tmp rfl .nil) ⟨⟨false, rfl, by constructor <;> intro hk; (cases hk); (simp only [Rec.key, Prod.mk.injEq, List.cons.injEq, and_true] at hk; simp_all)⟩, hE0⟩
          · refine Seg.skip rfl rfl ?_
            refine Seg.skip rfl rfl ?_
            refine Seg.skip rfl rfl ?_
            refine Seg.skip rfl rfl ?_
            refine Seg.skip rfl rfl ?_
            refine Seg.step rfl rfl (Yd.pickF rfl rfl) ?_
            refine Seg.step rfl rfl (Yd.move rfl) ?_
            refine Seg.skip rfl rfl ?_
            refine Seg.skip rfl rfl ?_
            refine Seg.skip rfl rfl ?_
            refine Seg.skip rfl rfl ?_
            refine Seg.skip rfl rfl ?_
            refine Seg.step rfl rfl (Yd.pickF rfl rfl) ?_
            refine Seg.step rfl rfl (Yd.move rfl) ?_
            refine Seg.skip rfl rfl ?_
            refine Seg.skip rfl rfl ?_
            refine Seg.skip rfl rfl ?_
            refine Seg.skip rfl rfl ?_
            refine Seg.skip rfl rfl ?_
            refine Seg.step rfl rfl (Yd.pickF rfl rfl) ?_
            refine Seg.step rfl rfl (Yd.move rfl) ?_
            refine Seg.skip rfl rfl ?_
            refine Seg.skip rfl rfl ?_
            refine Seg.skip rfl rfl ?_
            refine Seg.skip rfl rfl ?_
            refine Seg.skip rfl rfl ?_
            refine Seg.step rfl rfl (Yd.pickF rfl rfl) ?_
            refine Seg.step rfl rfl (Yd.move rfl) ?_
            refine Seg.skip rfl rfl ?_
            refine Seg.skip rfl rfl ?_
            refine Seg.skip rfl rfl ?_
            refine Seg.skip rfl rfl ?_
            refine Seg.skip rfl rfl ?_
            refine Seg.step rfl rfl (Yd.pickF rfl rfl) ?_
            refine Seg.step rfl rfl (Yd.move rfl) ?_
            refine Seg.skip rfl rfl ?_
            refine Seg.skip rfl rfl ?_
            refine Seg.skip rfl rfl ?_
            refine Seg.skip rfl rfl ?_
            refine Seg.skip rfl rfl ?_
            refine Seg.step rfl rfl (Yd.pickF rfl rfl) ?_
            refine Seg.step rfl rfl (Yd.move rfl) ?_
            refine Seg.skip rfl rfl ?_
            refine Seg.skip rfl rfl ?_
            refine Seg.skip rfl rfl ?_
            refine Seg.skip rfl rfl ?_
            refine Seg.skip rfl rfl ?_
            refine Seg.step rfl rfl (Yd.pickF rfl rfl) ?_
            refine Seg.step rfl rfl (Yd.assign rfl) ?_
            refine Seg.nil ?_
            refine At.then_ ?_
            refine Cd.ret ?_
            exact At.ret Try.results16 (.tmp rfl .nil) ⟨⟨false, rfl, by constructor <;> intro hk; (cases hk); (simp only [Rec.key, Prod.mk.injEq, List.cons.injEq, and_true] at hk; simp_all)⟩, hE0⟩
        · refine Seg.skip rfl rfl ?_
          refine Seg.skip rfl rfl ?_
          refine Seg.skip rfl rfl ?_
          refine Seg.skip rfl rfl ?_
          refine Seg.skip rfl rfl ?_
          refine Seg.step rfl rfl (Yd.pickF rfl rfl) ?_
          refine Seg.step rfl rfl (Yd.move rfl) ?_
          refine Seg.skip rfl rfl ?_
          refine Seg.skip rfl rfl ?_
          refine Seg.skip rfl rfl ?_
          refine Seg.skip rfl rfl ?_
          refine Seg.skip rfl rfl ?_
          refine Seg.step rfl rfl (Yd.pickF rfl rfl) ?_
          refine Seg.step rfl rfl (Yd.move rfl) ?_
          refine Seg.skip rfl rfl ?_
          refine Seg.skip rfl rfl ?_
          refine Seg.skip rfl rfl ?_
          refine Seg.skip rfl rfl ?_
          refine Seg.skip rfl rfl ?_
          refine Seg.step rfl rfl (Yd.pickF rfl rfl) ?_
          refine Seg.step rfl rfl (Yd.move rfl) ?_
          refine Seg.skip rfl rfl ?_
          refine Seg.skip rfl rfl ?_
          refine Seg.skip rfl rfl ?_
          refine Seg.skip rfl rfl ?_
          refine Seg.skip rfl rfl ?_
          refine Seg.step rfl rfl (Yd.pickF rfl rfl) ?_
          refine Seg.step rfl rfl (Yd.move rfl) ?_
          refine Seg.skip rfl rfl ?_
          refine Seg.skip rfl rfl ?_
          refine Seg.skip rfl rfl ?_
          refine Seg.skip rfl rfl ?_
          refine Seg.skip rfl rfl ?_
          refine Seg.step rfl rfl (Yd.pickF rfl rfl) ?_
          refine Seg.step rfl rfl (Yd.move rfl) ?_
          refine Seg.skip rfl rfl ?_
          refine Seg.skip rfl rfl ?_
          refine Seg.skip rfl rfl ?_
          refine Seg.skip rfl rfl ?_
          refine Seg.skip rfl rfl ?_
          refine Seg.step rfl rfl (Yd.pickF rfl rfl) ?_
          refine Seg.step rfl rfl (Yd.move rfl) ?_
          refine Seg.skip rfl rfl ?_
          refine Seg.skip rfl rfl ?_
          refine Seg.skip rfl rfl ?_
          refine Seg.skip rfl rfl ?_
          refine Seg.skip rfl rfl ?_
          refine Seg.step rfl rfl (Yd.pickF rfl rfl) ?_
          refine Seg.step rfl rfl (Yd.move rfl) ?_
          refine Seg.skip rfl rfl ?_
          refine Seg.skip rfl rfl ?_
          refine Seg.skip rfl rfl ?_
          refine Seg.skip rfl rfl ?_
          refine Seg.skip rfl rfl ?_
          refine Seg.step rfl rfl (Yd.pickF rfl rfl) ?_
          refine Seg.step rfl rfl (Yd.assign rfl) ?_
          refine Seg.nil ?_
          refine At.then_ ?_
          refine Cd.ret ?_
          exact At.ret Try.results16 (.tmp rfl .nil) ⟨⟨false, rfl, by constructor <;> intro hk; (cases hk); (simp only [Rec.key, Prod.mk.injEq, List.cons.injEq, and_true] at hk; simp_all)⟩, hE0⟩
      · refine Seg.skip rfl rfl ?_
        refine Seg.skip rfl rfl ?_
        refine Seg.skip rfl rfl ?_
        refine Seg.skip rfl rfl ?_
        refine Seg.skip rfl rfl ?_
        refine Seg.step rfl rfl (Yd.pickF rfl rfl) ?_
        refine Seg.step rfl rfl (Yd.move rfl) ?_
        refine Seg.skip rfl rfl ?_
        refine Seg.skip rfl rfl ?_
        refine Seg.skip rfl rfl ?_
        refine Seg.skip rfl rfl ?_
        refine Seg.skip rfl rfl ?_
        refine Seg.step rfl rfl (Yd.pickF rfl rfl) ?_
        refine Seg.step rfl rfl (Yd.move rfl) ?_
        refine Seg.skip rfl rfl ?_
        refine Seg.skip rfl rfl ?_
        refine Seg.skip rfl rfl ?_
        refine Seg.skip rfl rfl ?_
        refine Seg.skip rfl rfl ?_
        refine Seg.step rfl rfl (Yd.pickF rfl rfl) ?_
        refine Seg.step rfl rfl (Yd.move rfl) ?_
        refine Seg.skip rfl rfl ?_
        refine Seg.skip rfl rfl ?_
        refine Seg.skip rfl rfl ?_
        refine Seg.skip rfl rfl ?_
        refine Seg.skip rfl rfl ?_
        refine Seg.step rfl rfl (Yd.pickF rfl rfl) ?_
        refine Seg.step rfl rfl (Yd.move rfl) ?_
        refine Seg.skip rfl rfl ?_
        refine Seg.skip rfl rfl ?_
        refine Seg.skip rfl rfl ?_
        refine Seg.skip rfl rfl ?_
        refine Seg.skip rfl rfl ?_
        refine Seg.step rfl rfl (Yd.pickF rfl rfl) ?_
        refine Seg.step rfl rfl (Yd.move rfl) ?_
        refine Seg.skip rfl rfl ?_
        refine Seg.skip rfl rfl ?_
        refine Seg.skip rfl rfl ?_
        refine Seg.skip rfl rfl ?_
        refine Seg.skip rfl rfl ?_
        refine Seg.step rfl rfl (Yd.pickF rfl rfl) ?_
        refine Seg.step rfl rfl (Yd.move rfl) ?_
        refine Seg.skip rfl rfl ?_
        refine Seg.skip rfl rfl ?_
        refine Seg.skip rfl rfl ?_
        refine Seg.skip rfl rfl ?_
        refine Seg.skip rfl rfl ?_
        refine Seg.step rfl rfl (Yd.pickF rfl rfl) ?_
        refine Seg.step rfl rfl (Yd.move rfl) ?_
        refine Seg.skip rfl rfl ?_
        refine Seg.skip rfl rfl ?_
        refine Seg.skip rfl rfl ?_
        refine Seg.skip rfl rfl ?_
        refine Seg.skip rfl rfl ?_
        refine Seg.step rfl rfl (Yd.pickF rfl rfl) ?_
        refine Seg.step rfl rfl (Yd.move rfl) ?_
        refine Seg.skip rfl rfl ?_
        refine Seg.skip rfl rfl ?_
        refine Seg.skip rfl rfl ?_
        refine Seg.skip rfl rfl ?_
        refine Seg.skip rfl rfl ?_
        refine Seg.step rfl rfl (Yd.pickF rfl rfl) ?_
        refine Seg.step rfl rfl (Yd.assign rfl) ?_
        refine Seg.nil ?_
        refine At.then_ ?_
        refine Cd.ret ?_
        exact At.ret Try.results16 (.tmp rfl .nil) ⟨⟨false, rfl, by constructor <;> intro hk; (cases hk); (simp only [Rec.key, Prod.mk.injEq, List.cons.injEq, and_true] at hk; simp_all)⟩, hE0⟩
    · refine Seg.skip rfl rfl ?_
      refine Seg.skip rfl rfl ?_
      refine Seg.skip rfl rfl ?_
      refine Seg.skip rfl rfl ?_
      refine Seg.skip rfl rfl ?_
      refine Seg.step rfl rfl (Yd.pickF rfl rfl) ?_
      refine Seg.step rfl rfl (Yd.move rfl) ?_
      refine Seg.skip rfl rfl ?_
      refine Seg.skip rfl rfl ?_
      refine Seg.skip rfl rfl ?_
      refine Seg.skip rfl rfl ?_
      refine Seg.skip rfl rfl ?_
      refine Seg.step rfl rfl (Yd.pickF rfl rfl) ?_
      refine Seg.step rfl rfl (Yd.move rfl) ?_
      refine Seg.skip rfl rfl ?_
      refine Seg.skip rfl rfl ?_
      refine Seg.skip rfl rfl ?_
      refine Seg.skip rfl rfl ?_
      refine Seg.skip rfl rfl ?_
      refine Seg.step rfl rfl (Yd.pickF rfl rfl) ?_
      refine Seg.step rfl rfl (Yd.move rfl) ?_
      refine Seg.skip rfl rfl ?_
      refine Seg.skip rfl rfl ?_
      refine Seg.skip rfl rfl ?_
      refine Seg.skip rfl rfl ?_
      refine Seg.skip rfl rfl ?_
      refine Seg.step rfl rfl (Yd.pickF rfl rfl) ?_
      refine Seg.step rfl rfl (Yd.move rfl) ?_
      refine Seg.skip rfl rfl ?_
      refine Seg.skip rfl rfl ?_
      refine Seg.skip rfl rfl ?_
      refine Seg.skip rfl rfl ?_
      refine Seg.skip rfl rfl ?_
      refine Seg.step rfl rfl (Yd.pickF rfl rfl) ?_
      refine Seg.step rfl rfl (Yd.move rfl) ?_
      refine Seg.skip rfl rfl ?_
      refine Seg.skip rfl rfl ?_
      refine Seg.skip rfl rfl ?_
      refine Seg.skip rfl rfl ?_
      refine Seg.skip rfl rfl ?_
      refine Seg.step rfl rfl (Yd.pickF rfl rfl) ?_
      refine Seg.step rfl rfl (Yd.move rfl) ?_
      refine Seg.skip rfl rfl ?_
      refine Seg.skip rfl rfl ?_
      refine Seg.skip rfl rfl ?_
      refine Seg.skip rfl rfl ?_
      refine Seg.skip rfl rfl ?_
      refine Seg.step rfl rfl (Yd.pickF rfl rfl) ?_
      refine Seg.step rfl rfl (Yd.move rfl) ?_
      refine Seg.skip rfl rfl ?_
      refine Seg.skip rfl rfl ?_
      refine Seg.skip rfl rfl ?_
      refine Seg.skip rfl rfl ?_
      refine Seg.skip rfl rfl ?_
      refine Seg.step rfl rfl (Yd.pickF rfl rfl) ?_
      refine Seg.step rfl rfl (Yd.move rfl) ?_
      refine Seg.skip rfl rfl ?_
      refine Seg.skip rfl rfl ?_
      refine Seg.skip rfl rfl ?_
      refine Seg.skip rfl rfl ?_
      refine Seg.skip rfl rfl ?_
      refine Seg.step rfl rfl (Yd.pickF rfl rfl) ?_
      refine Seg.step rfl rfl (Yd.move rfl) ?_
      refine Seg.skip rfl rfl ?_
      refine Seg.skip rfl rfl ?_
      refine Seg.skip rfl rfl ?_
      refine Seg.skip rfl rfl ?_
      refine Seg.skip rfl rfl ?_
      refine Seg.step rfl rfl (Yd.pickF rfl rfl) ?_
      refine Seg.step rfl rfl (Yd.assign rfl) ?_
      refine Seg.nil ?_
      refine At.then_ ?_
      refine Cd.ret ?_
      exact At.ret Try.results16 (.tmp rfl .nil) ⟨⟨false, rfl, by constructor <;> intro hk; (cases hk); (simp only [Rec.key, Prod.mk.injEq, List.cons.injEq, and_true] at hk; simp_all)⟩, hE0⟩
  · refine Seg.skip rfl rfl ?_
    refine Seg.skip rfl rfl ?_
    refine Seg.skip rfl rfl ?_
    refine Seg.skip rfl rfl ?_
    refine Seg.skip rfl rfl ?_
    refine Seg.step rfl rfl (Yd.pickF rfl rfl) ?_
    refine Seg.step rfl rfl (Yd.move rfl) ?_
    refine Seg.skip rfl rfl ?_
    refine Seg.skip rfl rfl ?_
    refine Seg.skip rfl rfl ?_
    refine Seg.skip rfl rfl ?_
    refine Seg.skip rfl rfl ?_
    refine Seg.step rfl rfl (Yd.pickF rfl rfl) ?_
    refine Seg.step rfl rfl (Yd.move rfl) ?_
    refine Seg.skip rfl rfl ?_
    refine Seg.skip rfl rfl ?_
    refine Seg.skip rfl rfl ?_
    refine Seg.skip rfl rfl ?_
    refine Seg.skip rfl rfl ?_
    refine Seg.step rfl rfl (Yd.pickF rfl rfl) ?_
    refine Seg.step rfl rfl (Yd.move rfl) ?_
    refine Seg.skip rfl rfl ?_
    refine Seg.skip rfl rfl ?_
    refine Seg.skip rfl rfl ?_
    refine Seg.skip rfl rfl ?_
    refine Seg.skip rfl rfl ?_
    refine Seg.step rfl rfl (Yd.pickF rfl rfl) ?_
    refine Seg.step rfl rfl (Yd.move rfl) ?_
    refine Seg.skip rfl rfl ?_
    refine Seg.skip rfl rfl ?_
    refine Seg.skip rfl rfl ?_
    refine Seg.skip rfl rfl ?_
    refine Seg.skip rfl rfl ?_
    refine Seg.step rfl rfl (Yd.pickF rfl rfl) ?_
    refine Seg.step rfl rfl (Yd.move rfl) ?_
    refine Seg.skip rfl rfl ?_
    refine Seg.skip rfl rfl ?_
    refine Seg.skip rfl rfl ?_
    refine Seg.skip rfl rfl ?_
    refine Seg.skip rfl rfl ?_
    refine Seg.step rfl rfl (Yd.pickF rfl rfl) ?_
    refine Seg.step rfl rfl (Yd.move rfl) ?_
    refine Seg.skip rfl rfl ?_
    refine Seg.skip rfl rfl ?_
    refine Seg.skip rfl rfl ?_
    refine Seg.skip rfl rfl ?_
    refine Seg.skip rfl rfl ?_
    refine Seg.step rfl rfl (Yd.pickF rfl rfl) ?_
    refine Seg.step rfl rfl (Yd.move rfl) ?_
    refine Seg.skip rfl rfl ?_
    refine Seg.skip rfl rfl ?_
    refine Seg.skip rfl rfl ?_
    refine Seg.skip rfl rfl ?_
    refine Seg.skip rfl rfl ?_
    refine Seg.step rfl rfl (Yd.pickF rfl rfl) ?_
    refine Seg.step rfl rfl (Yd.move rfl) ?_
    refine Seg.skip rfl rfl ?_
    refine Seg.skip rfl rfl ?_
    refine Seg.skip rfl rfl ?_
    refine Seg.skip rfl rfl ?_
    refine Seg.skip rfl rfl ?_
    refine Seg.step rfl rfl (Yd.pickF rfl rfl) ?_
    refine Seg.step rfl rfl (Yd.move rfl) ?_
    refine Seg.skip rfl rfl ?_
    refine Seg.skip rfl rfl ?_
    refine Seg.skip rfl rfl ?_
    refine Seg.skip rfl rfl ?_
    refine Seg.skip rfl rfl ?_
    refine Seg.step rfl rfl (Yd.pickF rfl rfl) ?_
    refine Seg.step rfl rfl (Yd.move rfl) ?_
    refine Seg.skip rfl rfl ?_
    refine Seg.skip rfl rfl ?_
    refine Seg.skip rfl rfl ?_
    refine Seg.skip rfl rfl ?_
    refine Seg.skip rfl rfl ?_
    refine Seg.step rfl rfl (Yd.pickF rfl rfl) ?_
    refine Seg.step rfl rfl (Yd.assign rfl) ?_
    refine Seg.nil ?_
    refine At.then_ ?_
    refine Cd.ret ?_
    exact At.ret Try.results16 (.tmp rfl .nil) ⟨⟨false, rfl, by constructor <;> intro hk; (cases hk); (simp only [Rec.key, Prod.mk.injEq, List.cons.injEq, and_true] at hk; simp_all)⟩, hE0⟩
def keys (rs : List Rec) : List (( List (List UInt8) × List (List UInt8) × List (List UInt8)) × (List Int × (Int × Int × List Int) × List Int) × List UInt8) := rs.map Rec.key
theorem keys_get {rs ss : List Rec} (h : keys rs = keys ss) {i : Nat} {r s : Rec} (hr : rs[i]? = some r) (hs : ss[i]? = some s) : r.key = s.key := by
  have := congrArg (·[i]?) h
  simp only [keys, List.getElem?_map, hr, hs, Option.map_some, Option.some.injEq] at this
  exact this
theorem keys_of {rs ss : List Rec} (hl : rs.length = ss.length) (h : ∀ i r s, i < rs.length → rs[i]? = some r → ss[i]? = some s → r.key = s.key) : keys rs = keys ss := by
  refine List.ext_getElem? fun i => ?_
  simp only [keys, List.getElem?_map]
  rcases Nat.lt_or_ge i rs.length with hi | hi
  · rw [List.getElem?_eq_getElem hi, List.getElem?_eq_getElem (by omega)]
    simp only [Option.map_some]
    rw [h i rs[i] (ss[i]'(by omega)) hi (List.getElem?_eq_getElem hi) (List.getElem?_eq_getElem (by omega))]
  · rw [List.getElem?_eq_none hi, List.getElem?_eq_none (by omega)]
theorem bool_of (p : Prop) : ∃ b : Bool, b = true ↔ p := by
  by_cases h : p
  · exact ⟨true, by simp [h]⟩
  · exact ⟨false, by simp [h]⟩
theorem bool_iff {p : Prop} {a b : Bool} (ha : a = true ↔ p) (hb : b = true ↔ p) : a = b := by rw [Bool.eq_iff_iff, ha, hb]
theorem keys_len {rs ss : List Rec} (h : keys rs = keys ss) : rs.length = ss.length := by simpa [keys] using congrArg List.length h
set_option maxHeartbeats 400000 in
theorem sameRRs (rs ss : List Rec) (v0 v1 : Value) (w : World) (h0 : RecsAt w v0 rs) (h1 : RecsAt w v1 ss) (hf : ∀ r ∈ rs, FitR r) (hw : ∀ r ∈ rs, WfR r) (hws : ∀ r ∈ ss, WfR r) (hl : rs.length ≤ 1000) :
    Ret Try.prog 19 #[v0, v1] w fun v w' => (∃ b : Bool, v = .bool b ∧ (b = true ↔ keys rs = keys ss)) ∧ Ext w w' := by
  have hE0 := Ext.refl w
  obtain ⟨⟨ao, c, rfl, hl0, hr0, hz0⟩, hrec⟩ := h0
  obtain ⟨⟨ao', c', rfl, hl0', hr0', hz0'⟩, hrec'⟩ := h1
  refine Ret.body Try.func19 rfl Try.ntmps19 rfl ?_
  refine Cd.seq ?_
  refine Cd.region ?_
  refine Seg.step rfl rfl (Yd.assign rfl) ?_
  refine Seg.nil ?_
  refine At.then_ ?_
  refine Cd.seq ?_
  refine Cd.seq ?_
  refine Cd.region ?_
  refine Seg.step rfl rfl (Yd.move rfl) ?_
  refine Seg.step rfl rfl (Yd.lenS rfl rfl) ?_
  refine Seg.step rfl rfl (Yd.move rfl) ?_
  refine Seg.step rfl rfl (Yd.lenS rfl rfl) ?_
  refine Seg.step rfl rfl (Yd.neq rfl rfl) ?_
  refine Seg.nil ?_
  refine At.then_ ?_
  refine Cd.condk rfl (fun h16 => ?_) (fun h16 => ?_)
  · refine Cd.seq ?_
    refine Cd.region ?_
    refine Seg.step rfl rfl (Yd.assign rfl) ?_
    refine Seg.nil ?_
    refine At.then_ ?_
    refine Cd.ret ?_
    refine At.then_ret ?_
    exact At.ret Try.results19 (.tmp rfl .nil) ⟨⟨false, rfl, by constructor <;> intro hk; (cases hk); (have := keys_len hk; omega)⟩, hE0⟩
  refine Cd.skip ?_
  refine At.then_ ?_
  refine Cd.seq ?_
  refine Cd.seq ?_
  refine Cd.region ?_
  refine Seg.step rfl rfl (Yd.assign rfl) ?_
  refine Seg.nil ?_
  refine At.then_ ?_
  refine Cd.block ?_
  have hlen : rs.length = ss.length := by omega
  refine Cd.loop (σ := Nat) (fun s => [(0, .slice ao rs.length c), (1, .slice ao' ss.length c'), (5, .int .i64 s)])
    (fun s w' => s ≤ rs.length ∧ (∀ i r s', i < s → rs[i]? = some r → ss[i]? = some s' → r.key = s'.key) ∧ Ext w w') (fun s => rs.length - s) 0 (.cons rfl (.cons rfl (.cons rfl (.nil _)))) ⟨Nat.zero_le _, fun _ _ _ h => absurd h (Nat.not_lt_zero _), hE0⟩ ?_
  clear hE0
  rintro i w0 ⟨hi, hT, hE0⟩
  by_cases hlt : i < rs.length
  · obtain ⟨a, rfl⟩ : ∃ a, ao = some a := by
      cases ao with
      | none => have := hz0 rfl; omega
      | some a => exact ⟨a, rfl⟩
    obtain ⟨a', rfl⟩ : ∃ a, ao' = some a := by
      cases ao' with
      | none => have := hz0' rfl; omega
      | some a => exact ⟨a, rfl⟩
    obtain ⟨r, hri⟩ : ∃ r, rs[i]? = some r := ⟨_, List.getElem?_eq_getElem hlt⟩
    obtain ⟨s, hsi⟩ : ∃ s, ss[i]? = some s := ⟨_, List.getElem?_eq_getElem (by omega)⟩
    have hmem := List.mem_of_getElem? hri
    have hmem' := List.mem_of_getElem? hsi
    have hrow := recs_part (hr0 a rfl) hri
    have hrow' := recs_part (hr0' a' rfl) hsi
    obtain ⟨b1, k1⟩ := bool_of (r.key = s.key)
    refine Cd.seq ?_
    refine Cd.seq ?_
    refine Cd.region ?_
    refine Seg.step rfl rfl (Yd.move rfl) ?_
    refine Seg.step rfl rfl (Yd.move rfl) ?_
    refine Seg.step rfl rfl (Yd.lenS rfl rfl) ?_
    refine Seg.step rfl rfl (Yd.lss rfl rfl) ?_
    refine Seg.nil ?_
    refine At.then_ ?_
    refine Cd.condk rfl (fun h26 => ?_) (fun h26 => ?_)
    · refine Cd.skip ?_
      refine At.then_ ?_
      refine Cd.seq ?_
      refine Cd.block ?_
      refine Cd.seq ?_
      refine Cd.quiet (by kernel_rfl) (by kernel_rfl) ?_
      refine SegQ.step rfl rfl (fun w' hw' => Yd.move rfl) ?_
      refine SegQ.step rfl rfl (fun w' hw' => Yd.move rfl) ?_
      refine SegQ.step rfl rfl (fun w' hw' => Yd.indexAddr rfl rfl rfl (NatOf.cast _) (by omega)) ?_
      refine SegQ.step rfl rfl (fun w' hw' => Yd.loadN rfl rfl rfl (hrow.ext (hE0.trans hw'))) ?_
      refine SegQ.step rfl rfl (fun w' hw' => Yd.move rfl) ?_
      refine SegQ.step rfl rfl (fun w' hw' => Yd.move rfl) ?_
      refine SegQ.step rfl rfl (fun w' hw' => Yd.indexAddr rfl rfl rfl (NatOf.cast _) (by omega)) ?_
      refine SegQ.step rfl rfl (fun w' hw' => Yd.loadN rfl rfl rfl (hrow'.ext (hE0.trans hw'))) ?_
      refine SegQ.call rfl rfl (own_of rfl) rfl (v := .bool b1) (fun w1 hE1 => (same13 r s w1 ((hrec r hmem).ext (hE0.trans hE1)) ((hrec' s hmem').ext (hE0.trans hE1)) (hf r hmem) (hw r hmem) (hws s hmem')).mono fun v w2 ⟨⟨b, hv, hb⟩, hE⟩ => ⟨by rw [hv, bool_iff hb k1], hE1.trans hE⟩) ?_
      refine SegQ.step rfl rfl (fun w' hw' => Yd.not rfl) ?_
      refine SegQ.nil fun w44 hE44 => ?_
      replace hE0 := Ext.trans hE0 hE44
      refine At.then_ ?_
      refine Cd.condkb rfl (fun h46 => ?_) (fun h46 => ?_)
      · refine Cd.seq ?_
        refine Cd.region ?_
        refine Seg.step rfl rfl (Yd.assign rfl) ?_
        refine Seg.nil ?_
        refine At.then_ ?_
        refine Cd.ret ?_
        refine At.blk_ret ?_
        refine At.then_ret ?_
        refine At.then_ret ?_
        refine At.blk_ret ?_
        refine At.then_ret ?_
        exact At.ret Try.results19 (.tmp rfl .nil) ⟨⟨false, rfl, by constructor <;> intro hk; (cases hk); (have := k1.2 (keys_get hk hri hsi); have := (by assumption : (!b1) = true); simp_all)⟩, hE0⟩
      · refine Cd.skip ?_
        refine At.blk ?_
        refine At.then_ ?_
        refine Cd.region ?_
        refine Seg.step rfl rfl (Yd.move rfl) ?_
        refine Seg.step rfl rfl (Yd.addI rfl rfl (by omega)) ?_
        refine Seg.step rfl rfl (Yd.assign rfl) ?_
        refine Seg.nil ?_
        exact At.round (i + 1) (.cons rfl (.cons rfl (.cons rfl (.nil _)))) ⟨by omega, (fun j x y hj hx hy => by rcases Nat.lt_succ_iff_lt_or_eq.1 hj with hj | rfl; (exact hT j x y hj hx hy); (rw [hri] at hx; rw [hsi] at hy; cases hx; cases hy; exact k1.1 (by have := (by assumption : (!b1) = false); simpa using this))), hE0⟩ (by show _ - _ < _ - _; omega)
    · exfalso; omega
  · obtain rfl : i = rs.length := by omega
    refine Cd.seq ?_
    refine Cd.seq ?_
    refine Cd.region ?_
    refine Seg.step rfl rfl (Yd.move rfl) ?_
    refine Seg.step rfl rfl (Yd.move rfl) ?_
    refine Seg.step rfl rfl (Yd.lenS rfl rfl) ?_
    refine Seg.step rfl rfl (Yd.lss rfl rfl) ?_
    refine Seg.nil ?_
    refine At.then_ ?_
    refine Cd.condk rfl (fun h26 => ?_) (fun h26 => ?_)
    · exfalso; omega
    · refine Cd.exit ?_
      refine At.then_exit ?_
      refine At.then_exit ?_
      refine At.blk_same ?_
      refine At.then_ ?_
      refine Cd.seq ?_
      refine Cd.region ?_
      refine Seg.step rfl rfl (Yd.assign rfl) ?_
      refine Seg.nil ?_
      refine At.then_ ?_
      refine Cd.ret ?_
      exact At.ret Try.results19 (.tmp rfl .nil) ⟨⟨true, rfl, by constructor <;> intro hk; (exact keys_of hlen hT); rfl⟩, hE0⟩
end Go.Proofs.Ytccppgpedlfjdaa
