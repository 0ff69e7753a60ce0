/- The laws' own trial of chain.Follow: the walk. -/
import Derived.Test.YtidhelgoopdloaaFom
import Derived.Test.YtidhelgoopdloaaWkj
namespace Go.Proofs.Ytidhelgoopdloaa
open Go Go.RowKit
def addrV (a b c d : Int) : Value := .agg #[.int .i64 4, .int .u8 a, .int .u8 b, .int .u8 c, .int .u8 d, .int .u8 0, .int .u8 0, .int .u8 0, .int .u8 0, .int .u8 0, .int .u8 0, .int .u8 0, .int .u8 0, .int .u8 0, .int .u8 0, .int .u8 0, .int .u8 0, .int .i64 0]
theorem addr_1 (w : World) : Ret Try.prog 23 #[.int .i64 1, .int .i64 1, .int .i64 1, .int .i64 1] w fun v w' => v = addrV 1 1 1 1 ∧ Ext w w' := by
  have hE0 := Ext.refl w
  refine Ret.body Try.func23 rfl Try.ntmps23 rfl ?_
  refine Cd.seq ?_
  refine Cd.region ?_
  refine Seg.alloc rfl rfl rfl (fun w3 b3 hE3 hB3 hb3 => ?_)
  have hlt3_0 := Nat.le_trans hE0.size hb3
  replace hE0 := Ext.trans hE0 hE3
  refine Seg.nil ?_
  refine At.then_ ?_
  refine Cd.seq ?_
  refine Cd.region ?_
  refine Seg.step rfl rfl (Yd.move rfl) ?_
  refine Seg.step rfl rfl (Yd.convI rfl rfl rfl) ?_
  refine Seg.step rfl rfl (Yd.move rfl) ?_
  refine Seg.step rfl rfl (Yd.convI rfl rfl rfl) ?_
  refine Seg.step rfl rfl (Yd.move rfl) ?_
  refine Seg.step rfl rfl (Yd.convI rfl rfl rfl) ?_
  refine Seg.step rfl rfl (Yd.move rfl) ?_
  refine Seg.step rfl rfl (Yd.convI rfl rfl rfl) ?_
  refine Seg.step rfl rfl (Yd.buildArrT (cs := _ :: _ :: _ :: _ :: _ :: _ :: _ :: _ :: _ :: _ :: _ :: _ :: _ :: _ :: _ :: _ :: []) 16 rfl rfl rfl rfl rfl) ?_
  refine Seg.step rfl rfl (Yd.buildT (cs := _ :: _ :: _ :: _ :: _ :: _ :: _ :: _ :: _ :: _ :: _ :: _ :: _ :: _ :: _ :: _ :: _ :: _ :: []) 18 rfl rfl rfl rfl rfl) ?_
  refine Seg.storeN rfl rfl rfl rfl hB3 rfl (by first | assumption | exact List.all_eq_true.1 rfl) (fun w18 hW18 hB18 => ?_)
  clear hB3
  replace hE3 := Ext.wr' hE3 hW18 (by omega)
  replace hE0 := Ext.wr' hE0 hW18 (by omega)
  refine Seg.nil ?_
  refine At.then_ ?_
  refine Cd.ret ?_
  exact At.ret Try.results23 (.cell rfl (run_loadVarN rfl rfl (by assumption : Bx _ b3 _).row) .nil) ⟨rfl, hE0⟩
theorem addr_2 (w : World) : Ret Try.prog 23 #[.int .i64 2, .int .i64 2, .int .i64 2, .int .i64 2] w fun v w' => v = addrV 2 2 2 2 ∧ Ext w w' := by
  have hE0 := Ext.refl w
  refine Ret.body Try.func23 rfl Try.ntmps23 rfl ?_
  refine Cd.seq ?_
  refine Cd.region ?_
  refine Seg.alloc rfl rfl rfl (fun w3 b3 hE3 hB3 hb3 => ?_)
  have hlt3_0 := Nat.le_trans hE0.size hb3
  replace hE0 := Ext.trans hE0 hE3
  refine Seg.nil ?_
  refine At.then_ ?_
  refine Cd.seq ?_
  refine Cd.region ?_
  refine Seg.step rfl rfl (Yd.move rfl) ?_
  refine Seg.step rfl rfl (Yd.convI rfl rfl rfl) ?_
  refine Seg.step rfl rfl (Yd.move rfl) ?_
  refine Seg.step rfl rfl (Yd.convI rfl rfl rfl) ?_
  refine Seg.step rfl rfl (Yd.move rfl) ?_
  refine Seg.step rfl rfl (Yd.convI rfl rfl rfl) ?_
  refine Seg.step rfl rfl (Yd.move rfl) ?_
  refine Seg.step rfl rfl (Yd.convI rfl rfl rfl) ?_
  refine Seg.step rfl rfl (Yd.buildArrT (cs := _ :: _ :: _ :: _ :: _ :: _ :: _ :: _ :: _ :: _ :: _ :: _ :: _ :: _ :: _ :: _ :: []) 16 rfl rfl rfl rfl rfl) ?_
  refine Seg.step rfl rfl (Yd.buildT (cs := _ :: _ :: _ :: _ :: _ :: _ :: _ :: _ :: _ :: _ :: _ :: _ :: _ :: _ :: _ :: _ :: _ :: _ :: []) 18 rfl rfl rfl rfl rfl) ?_
  refine Seg.storeN rfl rfl rfl rfl hB3 rfl (by first | assumption | exact List.all_eq_true.1 rfl) (fun w18 hW18 hB18 => ?_)
  clear hB3
  replace hE3 := Ext.wr' hE3 hW18 (by omega)
  replace hE0 := Ext.wr' hE0 hW18 (by omega)
  refine Seg.nil ?_
  refine At.then_ ?_
  refine Cd.ret ?_
  exact At.ret Try.results23 (.cell rfl (run_loadVarN rfl rfl (by assumption : Bx _ b3 _).row) .nil) ⟨rfl, hE0⟩
/-- The trial's three records. -/
def wr1 (vn vt : Value) : Rec := { nm := [[97]], tg := [[98]], ml := [], vn := vn, vt := vt, vm := .slice none 0 0, ty := 5, cl := 1, ttl := 9, fam := 0, zone := 0, pri := 0, wt := 0, pt := 0, raw := [], i0 := 0, i1 := 0, i2 := 0, i3 := 0, i4 := 0, i5 := 0, i6 := 0, i7 := 0, i8 := 0, i9 := 0, i10 := 0, i11 := 0, i12 := 0, i13 := 0, i14 := 0, i15 := 0, m0 := 0, m1 := 0, m2 := 0, m3 := 0, m4 := 0 : Rec }
def wr2 (vn : Value) : Rec := { nm := [[99]], tg := [], ml := [], vn := vn, vt := .slice none 0 0, vm := .slice none 0 0, ty := 1, cl := 1, ttl := 0, fam := 4, zone := 0, pri := 0, wt := 0, pt := 0, raw := [], i0 := 1, i1 := 1, i2 := 1, i3 := 1, i4 := 0, i5 := 0, i6 := 0, i7 := 0, i8 := 0, i9 := 0, i10 := 0, i11 := 0, i12 := 0, i13 := 0, i14 := 0, i15 := 0, m0 := 0, m1 := 0, m2 := 0, m3 := 0, m4 := 0 : Rec }
def wr3 (vn : Value) : Rec := { nm := [[98]], tg := [], ml := [], vn := vn, vt := .slice none 0 0, vm := .slice none 0 0, ty := 1, cl := 1, ttl := 20, fam := 4, zone := 0, pri := 0, wt := 0, pt := 0, raw := [], i0 := 2, i1 := 2, i2 := 2, i3 := 2, i4 := 0, i5 := 0, i6 := 0, i7 := 0, i8 := 0, i9 := 0, i10 := 0, i11 := 0, i12 := 0, i13 := 0, i14 := 0, i15 := 0, m0 := 0, m1 := 0, m2 := 0, m3 := 0, m4 := 0 : Rec }
/-- All three. -/
def wrs (a b c : Value) : List Rec := [wr1 a b, wr2 c, wr3 b]
theorem wrs_fol (a b c : Value) : fol 1 1 (wrs a b c) 16 [[65]] false 0 = ⟨[[98]], [wr3 b], 9, 1, 0⟩ := by kernel_rfl
theorem wrs_fit (a b c : Value) : ∀ r ∈ wrs a b c, FitR r := by
  intro r hr
  rcases List.mem_cons.1 hr with rfl | hr
  · simp [FitR, Fit, wr1]
  rcases List.mem_cons.1 hr with rfl | hr
  · simp [FitR, Fit, wr2]
  rcases List.mem_cons.1 hr with rfl | hr
  · simp [FitR, Fit, wr3]
  cases hr
def nmS (b : Nat) : Value := .slice (some ⟨b, 0, none⟩) 1 1
theorem wrs_at {w : World} {b8 b9 b10 b27 : Nat} {cs c1 c2 c3 : List Value} (h8 : Bx w b8 c1) (h9 : Bx w b9 c2) (h10 : Bx w b10 c3) (h27 : Bx w b27 cs) (e1 : c1 = strV [[97]]) (e2 : c2 = strV [[98]]) (e3 : c3 = strV [[99]])
    (e : cs = recsV (wrs (nmS b8) (nmS b9) (nmS b10))) : RecsAt w (.slice (some ⟨b27, 0, none⟩) 3 3) (wrs (nmS b8) (nmS b9) (nmS b10)) := by
  subst e1; subst e2; subst e3; subst e
  refine ⟨h27.sl (recsV_length _) 3, ?_⟩
  intro r hr
  rcases List.mem_cons.1 hr with rfl | hr
  · exact ⟨h8.sl rfl 1, h9.sl rfl 1, Sl.nil _ 1⟩
  rcases List.mem_cons.1 hr with rfl | hr
  · exact ⟨h10.sl rfl 1, Sl.nil _ 1, Sl.nil _ 1⟩
  rcases List.mem_cons.1 hr with rfl | hr
  · exact ⟨h9.sl rfl 1, Sl.nil _ 1, Sl.nil _ 1⟩
  cases hr
theorem Bx.nm {w : World} {b : Nat} {cs : List Value} {xs : Name} (h : Bx w b cs) (e : cs = strV xs) (c : Nat) : NameAt w (.slice (some ⟨b, 0, none⟩) xs.length c) xs := by
  subst e
  exact h.sl (by rw [strV_length, Nat.mul_one]) c
/-- A name whose cells lie below block K. -/
def NmB (w : World) (K : Nat) (v : Value) (xs : Name) : Prop := NameAt w v xs ∧ SlLt K v
theorem NmB.ext {w w' : World} {K : Nat} {v : Value} {xs : Name} (h : NmB w K v xs) (hE : Ext w w') : NmB w' K v xs := ⟨Sl.ext h.1 hE, h.2⟩
theorem NmB.wr {w w' : World} {K b : Nat} {v : Value} {xs : Name} (h : NmB w K v xs) (hg : Wr b w w') (hb : K ≤ b) : NmB w' K v xs := ⟨Sl.wr h.1 hg (h.2.off hb), h.2⟩
set_option maxHeartbeats 400000 in
theorem works26 (w : World) : Ret Try.prog 10 #[] w fun v w' => v = .bool true ∧ Ext w w' := by
  have hE0 := Ext.refl w
  refine Ret.body (args := []) Try.func10 rfl Try.ntmps10 rfl ?_
  refine Cd.seq ?_
  refine Cd.region ?_
  refine Seg.step rfl rfl (Yd.assign rfl) ?_
  refine Seg.nil ?_
  refine At.then_ ?_
  refine Cd.seq ?_
  refine Cd.region ?_
  refine Seg.buildSliceV rfl rfl rfl rfl rfl rfl rfl rfl rfl rfl (fun w8 b8 hE8 hB8 hb8 hO8 => ?_)
  have hlt8_0 := Nat.le_trans hE0.size hb8
  replace hE0 := Ext.trans hE0 hE8
  refine Seg.buildSliceV rfl rfl rfl rfl rfl rfl rfl rfl rfl rfl (fun w9 b9 hE9 hB9 hb9 hO9 => ?_)
  have hlt9_0 := Nat.le_trans hE8.size hb9
  have hlt9_1 := Nat.lt_of_lt_of_le hB8.lt hb9
  have hlt9_2 := Nat.le_trans hE0.size hb9
  replace hE8 := Ext.trans hE8 hE9
  replace hB8 := hB8.ext hE9
  replace hO8 := own_ext hO8 hE9
  replace hE0 := Ext.trans hE0 hE9
  refine Seg.buildSliceV rfl rfl rfl rfl rfl rfl rfl rfl rfl rfl (fun w10 b10 hE10 hB10 hb10 hO10 => ?_)
  have hlt10_0 := Nat.le_trans hE9.size hb10
  have hlt10_1 := Nat.lt_of_lt_of_le hB9.lt hb10
  have hlt10_2 := Nat.le_trans hE8.size hb10
  have hlt10_3 := Nat.lt_of_lt_of_le hB8.lt hb10
  have hlt10_4 := Nat.le_trans hE0.size hb10
  replace hE9 := Ext.trans hE9 hE10
  replace hB9 := hB9.ext hE10
  replace hO9 := own_ext hO9 hE10
  replace hE8 := Ext.trans hE8 hE10
  replace hB8 := hB8.ext hE10
  replace hO8 := own_ext hO8 hE10
  replace hE0 := Ext.trans hE0 hE10
  refine Seg.step rfl rfl (Yd.assign rfl) ?_
  refine Seg.step rfl rfl (Yd.assign rfl) ?_
  refine Seg.step rfl rfl (Yd.assign rfl) ?_
  refine Seg.nil ?_
  refine At.then_ ?_
  refine Cd.seq ?_
  refine Cd.region ?_
  refine Seg.step rfl rfl (Yd.move rfl) ?_
  refine Seg.step rfl rfl (Yd.move rfl) ?_
  refine Seg.step rfl rfl (Yd.buildT (cs := _ :: _ :: _ :: _ :: _ :: _ :: _ :: _ :: _ :: _ :: _ :: _ :: _ :: _ :: _ :: _ :: _ :: _ :: _ :: _ :: _ :: _ :: _ :: _ :: _ :: _ :: _ :: _ :: _ :: _ :: _ :: _ :: _ :: []) 33 rfl rfl rfl rfl rfl) ?_
  refine Seg.step rfl rfl (Yd.move rfl) ?_
  (refine Seg.call rfl rfl (own_of rfl) rfl (addr_1 _) ?_; rintro _ w22 ⟨rfl, hE22⟩)
  replace hE10 := Ext.trans hE10 hE22
  replace hB10 := hB10.ext hE22
  replace hO10 := own_ext hO10 hE22
  replace hE9 := Ext.trans hE9 hE22
  replace hB9 := hB9.ext hE22
  replace hO9 := own_ext hO9 hE22
  replace hE8 := Ext.trans hE8 hE22
  replace hB8 := hB8.ext hE22
  replace hO8 := own_ext hO8 hE22
  replace hE0 := Ext.trans hE0 hE22
  refine Seg.step rfl rfl (Yd.buildT (cs := _ :: _ :: _ :: _ :: _ :: _ :: _ :: _ :: _ :: _ :: _ :: _ :: _ :: _ :: _ :: _ :: _ :: _ :: _ :: _ :: _ :: _ :: _ :: _ :: _ :: _ :: _ :: _ :: _ :: _ :: _ :: _ :: _ :: []) 33 rfl rfl rfl rfl rfl) ?_
  refine Seg.step rfl rfl (Yd.move rfl) ?_
  (refine Seg.call rfl rfl (own_of rfl) rfl (addr_2 _) ?_; rintro _ w25 ⟨rfl, hE25⟩)
  replace hE22 := Ext.trans hE22 hE25
  replace hE10 := Ext.trans hE10 hE25
  replace hB10 := hB10.ext hE25
  replace hO10 := own_ext hO10 hE25
  replace hE9 := Ext.trans hE9 hE25
  replace hB9 := hB9.ext hE25
  replace hO9 := own_ext hO9 hE25
  replace hE8 := Ext.trans hE8 hE25
  replace hB8 := hB8.ext hE25
  replace hO8 := own_ext hO8 hE25
  replace hE0 := Ext.trans hE0 hE25
  refine Seg.step rfl rfl (Yd.buildT (cs := _ :: _ :: _ :: _ :: _ :: _ :: _ :: _ :: _ :: _ :: _ :: _ :: _ :: _ :: _ :: _ :: _ :: _ :: _ :: _ :: _ :: _ :: _ :: _ :: _ :: _ :: _ :: _ :: _ :: _ :: _ :: _ :: _ :: []) 33 rfl rfl rfl rfl rfl) ?_
  refine Seg.buildSliceV rfl rfl rfl rfl rfl rfl rfl rfl rfl rfl (fun w27 b27 hE27 hB27 hb27 hO27 => ?_)
  have hlt27_0 := Nat.le_trans hE25.size hb27
  have hlt27_1 := Nat.le_trans hE22.size hb27
  have hlt27_2 := Nat.le_trans hE10.size hb27
  have hlt27_3 := Nat.lt_of_lt_of_le hB10.lt hb27
  have hlt27_4 := Nat.le_trans hE9.size hb27
  have hlt27_5 := Nat.lt_of_lt_of_le hB9.lt hb27
  have hlt27_6 := Nat.le_trans hE8.size hb27
  have hlt27_7 := Nat.lt_of_lt_of_le hB8.lt hb27
  have hlt27_8 := Nat.le_trans hE0.size hb27
  replace hE25 := Ext.trans hE25 hE27
  replace hE22 := Ext.trans hE22 hE27
  replace hE10 := Ext.trans hE10 hE27
  replace hB10 := hB10.ext hE27
  replace hO10 := own_ext hO10 hE27
  replace hE9 := Ext.trans hE9 hE27
  replace hB9 := hB9.ext hE27
  replace hO9 := own_ext hO9 hE27
  replace hE8 := Ext.trans hE8 hE27
  replace hB8 := hB8.ext hE27
  replace hO8 := own_ext hO8 hE27
  replace hE0 := Ext.trans hE0 hE27
  refine Seg.step rfl rfl (Yd.assign rfl) ?_
  refine Seg.nil ?_
  refine At.then_ ?_
  refine Cd.seq ?_
  refine Cd.region ?_
  refine Seg.buildSliceV rfl rfl rfl rfl rfl rfl rfl rfl rfl rfl (fun w33 b33 hE33 hB33 hb33 hO33 => ?_)
  have hlt33_0 := Nat.le_trans hE27.size hb33
  have hlt33_1 := Nat.lt_of_lt_of_le hB27.lt hb33
  have hlt33_2 := Nat.le_trans hE25.size hb33
  have hlt33_3 := Nat.le_trans hE22.size hb33
  have hlt33_4 := Nat.le_trans hE10.size hb33
  have hlt33_5 := Nat.lt_of_lt_of_le hB10.lt hb33
  have hlt33_6 := Nat.le_trans hE9.size hb33
  have hlt33_7 := Nat.lt_of_lt_of_le hB9.lt hb33
  have hlt33_8 := Nat.le_trans hE8.size hb33
  have hlt33_9 := Nat.lt_of_lt_of_le hB8.lt hb33
  have hlt33_10 := Nat.le_trans hE0.size hb33
  replace hE27 := Ext.trans hE27 hE33
  replace hB27 := hB27.ext hE33
  replace hO27 := own_ext hO27 hE33
  replace hE25 := Ext.trans hE25 hE33
  replace hE22 := Ext.trans hE22 hE33
  replace hE10 := Ext.trans hE10 hE33
  replace hB10 := hB10.ext hE33
  replace hO10 := own_ext hO10 hE33
  replace hE9 := Ext.trans hE9 hE33
  replace hB9 := hB9.ext hE33
  replace hO9 := own_ext hO9 hE33
  replace hE8 := Ext.trans hE8 hE33
  replace hB8 := hB8.ext hE33
  replace hO8 := own_ext hO8 hE33
  replace hE0 := Ext.trans hE0 hE33
  refine Seg.step rfl rfl (Yd.buildT (cs := _ :: _ :: _ :: []) 3 rfl rfl rfl rfl rfl) ?_
  refine Seg.step rfl rfl (Yd.move rfl) ?_
  have hr := wrs_at hB8 hB9 hB10 hB27 (by kernel_rfl) (by kernel_rfl) (by kernel_rfl) (by kernel_rfl)
  have hn : NameAt w33 (.slice (some ⟨b33, 0, none⟩) 1 1) [[65]] := Bx.nm (xs := [[65]]) hB33 (by kernel_rfl) 1
  have hc := follow_any (wrs (nmS b8) (nmS b9) (nmS b10)) [[65]] (.slice (some ⟨b33, 0, none⟩) 1 1) (.slice (some ⟨b27, 0, none⟩) 3 3) 1 1 w33 hr hn (wrs_fit _ _ _) (by simp [Fit]) (Nat.le_of_ble_eq_true rfl)
  rw [wrs_fol] at hc
  have hc2 : Ret Try.prog 14 #[.agg #[.slice (some ⟨b33, 0, none⟩) 1 1, .int .i64 1, .int .i64 1], .slice (some ⟨b27, 0, none⟩) 3 3] w33 fun v w' => (∃ an cn a cr, v = .tuple #[.agg #[.slice an 1 cn, .slice (some a) 1 cr, .int .i64 9, .int .i64 1], .int .i64 0] ∧ NmB w' w'.heap.size (.slice an 1 cn) [[98]] ∧ Row w' a (wr3 (nmS b9)).cells ∧ a.block < w'.heap.size) ∧ Ext w33 w' := hc.mono (by
    rintro _ w4 ⟨⟨vn, vr, rfl, hvn, ⟨ar, cr, rfl, h1, h2, h3⟩, _⟩, hE⟩
    obtain ⟨an, cn, rfl⟩ := name_shape hvn
    cases ar with
    | none => exact absurd (h3 rfl) (by simp)
    | some a =>
      have hR := h2 a rfl
      rw [recsV_one] at hR
      have := hR.head
      exact ⟨⟨an, cn, a, cr, rfl, ⟨hvn, hvn.lt⟩, hR, cell_lt this⟩, hE⟩)
  have hB9' := hB9
  clear hc hB27 hO27 hB33 hO33 hB8 hO8 hO9 hB10 hO10 hE33 hE27 hE9 hE8 hB9 hr
  (refine Seg.call rfl rfl (own_of rfl) rfl hc2 ?_; rintro _ w34 ⟨⟨an, cn, a, cr, rfl, hvn, hrow, hal⟩, hE34⟩)
  replace hE25 := Ext.trans hE25 hE34
  replace hE22 := Ext.trans hE22 hE34
  replace hE10 := Ext.trans hE10 hE34
  replace hE0 := Ext.trans hE0 hE34
  replace hB9' := hB9'.ext hE34
  refine Seg.step rfl rfl (Yd.move rfl) ?_
  refine Seg.step rfl rfl (Yd.extract rfl rfl) ?_
  refine Seg.step rfl rfl (Yd.extract rfl rfl) ?_
  refine Seg.alloc rfl rfl rfl (fun w38 b38 hE38 hB38 hb38 => ?_)
  have hlt38_0 := Nat.le_trans hE34.size hb38
  have hlt38_1 := Nat.le_trans hE25.size hb38
  have hlt38_2 := Nat.le_trans hE22.size hb38
  have hlt38_3 := Nat.le_trans hE10.size hb38
  have hlt38_4 := Nat.le_trans hE0.size hb38
  have hlt38_5 := Nat.lt_of_lt_of_le hB9'.lt hb38
  replace hE34 := Ext.trans hE34 hE38
  replace hvn := hvn.ext hE38
  replace hrow := hrow.ext hE38
  replace hE25 := Ext.trans hE25 hE38
  replace hE22 := Ext.trans hE22 hE38
  replace hE10 := Ext.trans hE10 hE38
  replace hE0 := Ext.trans hE0 hE38
  replace hB9' := hB9'.ext hE38
  refine Seg.storeN rfl rfl rfl rfl hB38 rfl (by first | assumption | exact List.all_eq_true.1 rfl) (fun w39 hW39 hB39 => ?_)
  clear hB38
  replace hE38 := Ext.wr' hE38 hW39 (by omega)
  replace hE34 := Ext.wr' hE34 hW39 (by omega)
  replace hvn := hvn.wr hW39 (by omega)
  replace hrow := hrow.wr hW39 (by omega)
  replace hE25 := Ext.wr' hE25 hW39 (by omega)
  replace hE22 := Ext.wr' hE22 hW39 (by omega)
  replace hE10 := Ext.wr' hE10 hW39 (by omega)
  replace hE0 := Ext.wr' hE0 hW39 (by omega)
  replace hB9' := hB9'.wr hW39 (by omega)
  refine Seg.step rfl rfl (Yd.assign rfl) ?_
  refine Seg.nil ?_
  refine At.then_ ?_
  refine Cd.seq ?_
  refine Cd.region ?_
  refine Seg.step rfl rfl (Yd.move rfl) ?_
  refine Seg.step rfl rfl (Yd.eql rfl rfl) ?_
  refine Seg.step rfl rfl (Yd.move rfl) ?_
  refine Seg.step rfl rfl (Yd.fieldAddr rfl rfl) ?_
  refine Seg.step rfl rfl (Yd.load1 rfl rfl (hB39.row _ _ rfl)) ?_
  refine Seg.step rfl rfl (Yd.lenS rfl rfl) ?_
  refine Seg.step rfl rfl (Yd.eql rfl rfl) ?_
  refine Seg.step rfl rfl (Yd.pickT rfl rfl) ?_
  refine Seg.step rfl rfl (Yd.move rfl) ?_
  refine Seg.step rfl rfl (Yd.fieldAddr rfl rfl) ?_
  refine Seg.step rfl rfl (Yd.load1 rfl rfl (hB39.row _ _ rfl)) ?_
  refine Seg.step rfl rfl (Yd.indexAddr rfl rfl rfl (NatOf.cast 0) (by omega)) ?_
  refine Seg.step rfl rfl (Yd.fieldAddr' rfl rfl) ?_
  refine Seg.step rfl rfl (Yd.fieldAddr' rfl rfl) ?_
  refine Seg.step rfl rfl (Yd.indexArr1' rfl rfl rfl (NatOf.cast 0) (by omega)) ?_
  refine Seg.step rfl rfl (Yd.load1 rfl rfl (hrow _ _ rfl)) ?_
  refine Seg.step rfl rfl (Yd.eql rfl rfl) ?_
  refine Seg.step rfl rfl (Yd.pickT rfl rfl) ?_
  refine Seg.step rfl rfl (Yd.move rfl) ?_
  refine Seg.step rfl rfl (Yd.fieldAddr rfl rfl) ?_
  refine Seg.step rfl rfl (Yd.load1 rfl rfl (hB39.row _ _ rfl)) ?_
  refine Seg.step rfl rfl (Yd.eql rfl rfl) ?_
  refine Seg.step rfl rfl (Yd.pickT rfl rfl) ?_
  refine Seg.step rfl rfl (Yd.move rfl) ?_
  refine Seg.step rfl rfl (Yd.fieldAddr rfl rfl) ?_
  refine Seg.step rfl rfl (Yd.load1 rfl rfl (hB39.row _ _ rfl)) ?_
  refine Seg.step rfl rfl (Yd.eql rfl rfl) ?_
  refine Seg.step rfl rfl (Yd.pickT rfl rfl) ?_
  refine Seg.step rfl rfl (Yd.move rfl) ?_
  refine Seg.step rfl rfl (Yd.fieldAddr rfl rfl) ?_
  refine Seg.step rfl rfl (Yd.load1 rfl rfl (hB39.row _ _ rfl)) ?_
  refine Seg.step rfl rfl (Yd.move rfl) ?_
  (refine Seg.call rfl rfl (own_of rfl) rfl (exact_any [[98]] [[98]] _ _ _ hvn.1 (Bx.nm (xs := [[98]]) hB9' (by kernel_rfl) 1) (by simp)) ?_; rintro _ w77 ⟨rfl, hE77⟩)
  replace hW39 := Wr.trans hW39 (Ext.wr hE77 _)
  replace hB39 := hB39.ext hE77
  replace hE38 := Ext.trans hE38 hE77
  replace hE34 := Ext.trans hE34 hE77
  replace hvn := hvn.ext hE77
  replace hrow := hrow.ext hE77
  replace hE25 := Ext.trans hE25 hE77
  replace hE22 := Ext.trans hE22 hE77
  replace hE10 := Ext.trans hE10 hE77
  replace hE0 := Ext.trans hE0 hE77
  replace hB9' := hB9'.ext hE77
  refine Seg.step rfl rfl (Yd.pickT rfl rfl) ?_
  refine Seg.step rfl rfl (Yd.assign rfl) ?_
  refine Seg.nil ?_
  refine At.then_ ?_
  refine Cd.ret ?_
  exact At.ret Try.results10 (.tmp rfl .nil) ⟨rfl, hE0⟩
end Go.Proofs.Ytidhelgoopdloaa
