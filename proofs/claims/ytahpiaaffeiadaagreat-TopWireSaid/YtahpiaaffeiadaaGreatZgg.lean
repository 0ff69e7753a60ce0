/- Records' data read: rdata.Get. -/
import Derived.Test.YtahpiaaffeiadaaGreatZgt
namespace Go.Proofs.YtahpiaaffeiadaaGreat
open Go Go.RowKit
/-- A record of which data alone are told. -/
def dat (r : Rec) (ut um : Value) : Rec := { r with nm := [], vn := .slice none 0 0, ty := 0, cl := 0, ttl := 0, vt := ut, vm := um }
theorem dat_a {r : Rec} {k : Nat} {f : Int} {dt : List UInt8} (hk : kdN r.ty r.cl = 1 ∧ k = 4 ∨ kdN r.ty r.cl = 28 ∧ k = 16) (hf : kdN r.ty r.cl = 1 ∧ f = 4 ∨ kdN r.ty r.cl = 28 ∧ f = 6) (ha : AdrIs r f) (hs : noS r) (hn : noN r) (hr : r.raw = [])
    (h : bytesV dt = [.int .u8 r.i0, .int .u8 r.i1, .int .u8 r.i2, .int .u8 r.i3, .int .u8 r.i4, .int .u8 r.i5, .int .u8 r.i6, .int .u8 r.i7, .int .u8 r.i8, .int .u8 r.i9, .int .u8 r.i10, .int .u8 r.i11, .int .u8 r.i12, .int .u8 r.i13, .int .u8 r.i14, .int .u8 r.i15].take k) :
    (rz.cells.set 4 (.int .i64 f)).take 5 ++ bytesV dt ++ (rz.cells.set 4 (.int .i64 f)).drop (5 + k) = (dat r (.slice none 0 0) (.slice none 0 0)).cells := by
  obtain ⟨nm, tg, ml, vn, vt, vm, ty, cl, ttl, fam, zone, pri, wt, pt, raw, i0, i1, i2, i3, i4, i5, i6, i7, i8, i9, i10, i11, i12, i13, i14, i15, m0, m1, m2, m3, m4⟩ := r
  rw [h]
  obtain ⟨h1, h2, h3⟩ := ha
  obtain ⟨h4, h5, h6⟩ := hs
  simp only [noN, Rec.nums, List.cons.injEq, and_true] at hn
  obtain ⟨n0, n1, n2, n3, n4⟩ := hn
  simp only at h1 h2 h4 h5 h6 hr hk hf
  subst h1
  subst h2
  subst h4
  subst h5
  subst h6
  subst n0
  subst n1
  subst n2
  subst n3
  subst n4
  subst hr
  rcases hk with ⟨h7, rfl⟩ | ⟨h7, rfl⟩
  · have hf4 : fam = 4 := by omega
    subst hf4
    have h3 := h3 rfl
    simp only [List.mem_cons, List.not_mem_nil, or_false, forall_eq_or_imp, forall_eq] at h3
    obtain ⟨rfl, rfl, rfl, rfl, rfl, rfl, rfl, rfl, rfl, rfl, rfl, rfl⟩ := h3
    rfl
  · rfl
theorem dat_t {r : Rec} {u t : Value} (ha : noA r) (hs : noS r) (hn : noN r) (hr : r.raw = []) : (rz.cells.set 22 u).set 23 t = (dat r u t).cells := by
  obtain ⟨nm, tg, ml, vn, vt, vm, ty, cl, ttl, fam, zone, pri, wt, pt, raw, i0, i1, i2, i3, i4, i5, i6, i7, i8, i9, i10, i11, i12, i13, i14, i15, m0, m1, m2, m3, m4⟩ := r
  obtain ⟨h4, h5, h6⟩ := hs
  simp only [noN, Rec.nums, List.cons.injEq, and_true] at hn
  obtain ⟨n0, n1, n2, n3, n4⟩ := hn
  simp only [noA, Rec.adr, Prod.mk.injEq, List.cons.injEq, and_true] at ha
  simp only at h4 h5 h6 hr
  obtain ⟨rfl, rfl, rfl, rfl, rfl, rfl, rfl, rfl, rfl, rfl, rfl, rfl, rfl, rfl, rfl, rfl, rfl, rfl⟩ := ha
  subst h4 h5 h6 n0 n1 n2 n3 n4 hr
  rfl
theorem dat_s {r : Rec} {u : Value} (ha : noA r) (hn : noN r) (hr : r.raw = []) : (((rz.cells.set 24 (.int .i64 r.pri)).set 25 (.int .i64 r.wt)).set 26 (.int .i64 r.pt)).set 22 u = (dat r u (.slice none 0 0)).cells := by
  obtain ⟨nm, tg, ml, vn, vt, vm, ty, cl, ttl, fam, zone, pri, wt, pt, raw, i0, i1, i2, i3, i4, i5, i6, i7, i8, i9, i10, i11, i12, i13, i14, i15, m0, m1, m2, m3, m4⟩ := r
  simp only [noN, Rec.nums, List.cons.injEq, and_true] at hn
  obtain ⟨n0, n1, n2, n3, n4⟩ := hn
  simp only [noA, Rec.adr, Prod.mk.injEq, List.cons.injEq, and_true] at ha
  simp only at hr
  obtain ⟨rfl, rfl, rfl, rfl, rfl, rfl, rfl, rfl, rfl, rfl, rfl, rfl, rfl, rfl, rfl, rfl, rfl, rfl⟩ := ha
  subst n0 n1 n2 n3 n4 hr
  rfl
theorem dat_o {r : Rec} {u t : Value} {s : List UInt8} {e : Nat} (ha : noA r) (hs : noS r) (hr : r.raw = []) (hn : r.nums = [(deB ((s.drop e).take 4) : Int), (deB ((s.drop (e + 4)).take 4) : Int), (deB ((s.drop (e + 8)).take 4) : Int), (deB ((s.drop (e + 12)).take 4) : Int), (deB ((s.drop (e + 16)).take 4) : Int)]) :
    ((soaC rz.cells s e 5).set 22 u).set 23 t = (dat r u t).cells := by
  obtain ⟨nm, tg, ml, vn, vt, vm, ty, cl, ttl, fam, zone, pri, wt, pt, raw, i0, i1, i2, i3, i4, i5, i6, i7, i8, i9, i10, i11, i12, i13, i14, i15, m0, m1, m2, m3, m4⟩ := r
  obtain ⟨h4, h5, h6⟩ := hs
  simp only [Rec.nums, List.cons.injEq, and_true] at hn
  obtain ⟨n0, n1, n2, n3, n4⟩ := hn
  simp only [noA, Rec.adr, Prod.mk.injEq, List.cons.injEq, and_true] at ha
  simp only at h4 h5 h6 hr
  obtain ⟨rfl, rfl, rfl, rfl, rfl, rfl, rfl, rfl, rfl, rfl, rfl, rfl, rfl, rfl, rfl, rfl, rfl, rfl⟩ := ha
  subst h4 h5 h6 n0 n1 n2 n3 n4 hr
  rfl
theorem dat_r {r : Rec} (ha : noA r) (hs : noS r) (hn : noN r) : rz.cells.set 32 (.string ⟨r.raw.toArray⟩) = (dat r (.slice none 0 0) (.slice none 0 0)).cells := by
  obtain ⟨nm, tg, ml, vn, vt, vm, ty, cl, ttl, fam, zone, pri, wt, pt, raw, i0, i1, i2, i3, i4, i5, i6, i7, i8, i9, i10, i11, i12, i13, i14, i15, m0, m1, m2, m3, m4⟩ := r
  obtain ⟨h4, h5, h6⟩ := hs
  simp only [noN, Rec.nums, List.cons.injEq, and_true] at hn
  obtain ⟨n0, n1, n2, n3, n4⟩ := hn
  simp only [noA, Rec.adr, Prod.mk.injEq, List.cons.injEq, and_true] at ha
  simp only at h4 h5 h6
  obtain ⟨rfl, rfl, rfl, rfl, rfl, rfl, rfl, rfl, rfl, rfl, rfl, rfl, rfl, rfl, rfl, rfl, rfl, rfl⟩ := ha
  subst h4 h5 h6 n0 n1 n2 n3 n4
  rfl
/-- What reading a record's data gives. -/
def GetOk (r : Rec) (w : World) (v : Value) (w' : World) : Prop := (∃ ut um, v = .tuple #[.agg (dat r ut um).cells.toArray, .int .i64 0] ∧ OwnS w' w.heap.size ut r.tg ∧ OwnS w' w.heap.size um r.ml) ∧ Ext w w'
theorem nil_own (w : World) (base : Nat) {n : List (List UInt8)} (h : n = []) : OwnS w base (.slice none 0 0) n := by subst h; exact World.ownsRow_nil _ _ _ _
set_option maxHeartbeats 400000 in
theorem rgetA (f : Int) (k : Nat) (r : Rec) (s : List UInt8) (at' n : Nat) (w : World) (hk : kdN r.ty r.cl = 1 ∧ k = 4 ∨ kdN r.ty r.cl = 28 ∧ k = 16) (hf : kdN r.ty r.cl = 1 ∧ f = 4 ∨ kdN r.ty r.cl = 28 ∧ f = 6) (ha : AdrIs r f) (ht : r.tg = []) (hm : r.ml = []) (hs : noS r) (hn : noN r) (hr : r.raw = []) (hb : at' + n ≤ s.length) (hl : s.length ≤ 65535) (hkl : n = k)
    (h : bytesV ((s.take (at' + n)).drop at') = [.int .u8 r.i0, .int .u8 r.i1, .int .u8 r.i2, .int .u8 r.i3, .int .u8 r.i4, .int .u8 r.i5, .int .u8 r.i6, .int .u8 r.i7, .int .u8 r.i8, .int .u8 r.i9, .int .u8 r.i10, .int .u8 r.i11, .int .u8 r.i12, .int .u8 r.i13, .int .u8 r.i14, .int .u8 r.i15].take k) :
    Ret Tryz.prog 73 #[.string ⟨s.toArray⟩, .int .i64 (at' : Nat), .int .i64 (n : Nat), .int .i64 r.ty, .int .i64 r.cl] w (GetOk r w) := by
  have hE0 := Ext.refl w
  have hbl : (s.take (at' + n)).length = at' + n := by rw [List.length_take]; omega
  have h1 : ¬ (at' : Int) < 0 := by omega
  have h2 : ¬ (n : Int) < 0 := by omega
  have h3 : ¬ (s.length : Int) < (at' : Int) := by omega
  have h4 : ¬ (s.length : Int) - (at' : Int) < (n : Int) := by omega
  refine Ret.body Tryz.func73 rfl Tryz.ntmps73 rfl ?_
  have hdl : ((s.take (at' + n)).drop at').length = k := by rw [List.length_drop, hbl]; omega
  have hcs := dat_a hk hf ha hs hn hr h
  rcases hk with ⟨hk, rfl⟩ | ⟨hk, rfl⟩
  · obtain rfl : f = 4 := by omega
    refine Cd.seq (Cd.region (Seg.alloc rfl rfl rfl (fun w7 b7 hE7 hB7 hb7 => ?_)))
    have hlt7_0 := Nat.le_trans hE0.size hb7
    replace hE0 := Ext.trans hE0 hE7
    refine Seg.step rfl rfl (Yd.assign rfl) (Seg.nil (At.then_ (Cd.seq (Cd.seq (Cd.region (Seg.step rfl rfl (Yd.move rfl) (Seg.step rfl rfl (Yd.lss rfl rfl) ?_)))))))
    refine Seg.step rfl rfl (Yd.move rfl) (Seg.step rfl rfl (Yd.move rfl) (Seg.step rfl rfl (Yd.lss rfl rfl) (Seg.step rfl rfl (Yd.pickF rfl rfl) (Seg.step rfl rfl (Yd.move rfl) (Seg.step rfl rfl (Yd.move rfl) (Seg.step rfl rfl (Yd.move rfl) (Seg.step rfl rfl (Yd.lenStr rfl rfl) ?_)))))))
    refine Seg.step rfl rfl (Yd.gtr rfl rfl) (Seg.step rfl rfl (Yd.pickF rfl rfl) (Seg.step rfl rfl (Yd.move rfl) ?_))
    refine Seg.gsplitp rfl rfl (fun h27 => ?_) (fun h27 => ?_)
    · exfalso; omega
    · refine Seg.step rfl rfl (Yd.move rfl) (Seg.step rfl rfl (Yd.move rfl) (Seg.step rfl rfl (Yd.lenStr rfl rfl) (Seg.step rfl rfl (Yd.move rfl) (Seg.step rfl rfl (Yd.subI rfl rfl (by omega)) (Seg.step rfl rfl (Yd.gtr rfl rfl) (Seg.step rfl rfl (Yd.pickF rfl rfl) (Seg.nil ?_)))))))
      refine At.then_ ?_
      refine Cd.condk rfl (fun h38 => ?_) (fun h38 => ?_)
      · exfalso; omega
      · refine Cd.skip (At.then_ (Cd.seq (Cd.region (Seg.alloc rfl rfl rfl (fun w44 b44 hE44 hB44 hb44 => ?_)))))
        have hlt44_0 := Nat.le_trans hE7.size hb44
        have hlt44_1 := Nat.lt_of_lt_of_le hB7.lt hb44
        have hlt44_2 := Nat.le_trans hE0.size hb44
        replace hE7 := Ext.trans hE7 hE44
        replace hB7 := hB7.ext hE44
        replace hE0 := Ext.trans hE0 hE44
        refine Seg.nil (At.then_ (Cd.seq (Cd.region (Seg.step rfl rfl (Yd.move rfl) (Seg.step rfl rfl (Yd.move rfl) (Seg.step rfl rfl (Yd.move rfl) (Seg.step rfl rfl (Yd.addI rfl rfl (by omega)) ?_)))))))
        refine Seg.step rfl rfl (Yd.slStrH rfl rfl rfl (NatOf.add (NatOf.cast _) (NatOf.cast _)) (by omega)) (Seg.step rfl rfl (Yd.assign rfl) (Seg.nil (At.then_ (Cd.seq (Cd.region (Seg.step rfl rfl (Yd.assign rfl) (Seg.nil ?_)))))))
        refine At.then_ (Cd.seq (Cd.seq (Cd.region (Seg.step rfl rfl (Yd.move rfl) (Seg.step rfl rfl (Yd.move rfl) ?_)))))
        (refine Seg.call rfl rfl (own_of rfl) rfl (rkind_any r.ty r.cl _) ?_; rw [hk]; rintro _ w67 ⟨rfl, hE67⟩)
        replace hE44 := Ext.trans hE44 hE67
        replace hB44 := hB44.ext hE67
        replace hE7 := Ext.trans hE7 hE67
        replace hB7 := hB7.ext hE67
        replace hE0 := Ext.trans hE0 hE67
        refine Seg.nil (At.then_ (Cd.block (Cd.seq (Cd.region (Seg.step rfl rfl (Yd.eql rfl rfl) (Seg.step rfl rfl (Yd.assign rfl) (Seg.nil ?_)))))))
        refine At.then_ (Cd.condT rfl (Cd.region (Seg.step rfl rfl (Yd.move rfl) (Seg.step rfl rfl (Yd.move rfl) (Seg.step rfl rfl (Yd.slStrL rfl rfl rfl (NatOf.cast _) (by omega)) ?_)))))
        (refine Seg.call rfl rfl (own_of rfl) rfl (gaddr_any ((s.take (at' + n)).drop at') b44 4 4 rz.cells _ hB44 rfl hdl (by decide)) ?_; rw [hcs]; rintro _ w82 ⟨rfl, hB9, hW9⟩; have hE9 : Ext w w82 := Ext.wr' (by assumption) hW9 (by omega); have hEm := Ext.refl w82; have hl44 := hB44.lt; have hb47 : b7 ≠ b44 := (by omega); have hB7 := hB7.wr hW9 hb47; clear hW9)
        refine Seg.step rfl rfl (Yd.assign rfl) (Seg.nil (At.blk (At.then_ (Cd.seq (Cd.seq (Cd.region (Seg.step rfl rfl (Yd.move rfl) ?_)))))))
        refine Seg.step rfl rfl (Yd.neq rfl rfl) (Seg.nil (At.then_ (Cd.condF rfl (Cd.skip (At.then_ (Cd.seq (Cd.region ?_)))))))
        refine Seg.step rfl rfl (Yd.loadN rfl rfl rfl hB9.row) (Seg.storeN rfl rfl rfl rfl hB7 rfl (by first | assumption | exact List.all_eq_true.1 rfl) (fun w100 hW100 hB100 => ?_))
        clear hB7
        replace hB9 := hB9.wr hW100 (by omega)
        replace hE9 := Ext.wr' hE9 hW100 (by omega)
        refine Seg.step rfl rfl (Yd.assign rfl) (Seg.nil (At.then_ (Cd.ret ?_)))
        exact At.ret Tryz.results73 (.cell rfl (run_loadVarN rfl rfl (show Bx _ b7 (dat r (.slice none 0 0) (.slice none 0 0)).cells by assumption).row) (.tmp rfl .nil)) ⟨⟨(.slice none 0 0), (.slice none 0 0), rfl, nil_own _ _ ht, nil_own _ _ hm⟩, hE9⟩
  · obtain rfl : f = 6 := by omega
    refine Cd.seq (Cd.region (Seg.alloc rfl rfl rfl (fun w7 b7 hE7 hB7 hb7 => ?_)))
    have hlt7_0 := Nat.le_trans hE0.size hb7
    replace hE0 := Ext.trans hE0 hE7
    refine Seg.step rfl rfl (Yd.assign rfl) (Seg.nil (At.then_ (Cd.seq (Cd.seq (Cd.region (Seg.step rfl rfl (Yd.move rfl) (Seg.step rfl rfl (Yd.lss rfl rfl) ?_)))))))
    refine Seg.step rfl rfl (Yd.move rfl) (Seg.step rfl rfl (Yd.move rfl) (Seg.step rfl rfl (Yd.lss rfl rfl) (Seg.step rfl rfl (Yd.pickF rfl rfl) (Seg.step rfl rfl (Yd.move rfl) (Seg.step rfl rfl (Yd.move rfl) (Seg.step rfl rfl (Yd.move rfl) (Seg.step rfl rfl (Yd.lenStr rfl rfl) ?_)))))))
    refine Seg.step rfl rfl (Yd.gtr rfl rfl) (Seg.step rfl rfl (Yd.pickF rfl rfl) (Seg.step rfl rfl (Yd.move rfl) ?_))
    refine Seg.gsplitp rfl rfl (fun h27 => ?_) (fun h27 => ?_)
    · exfalso; omega
    · refine Seg.step rfl rfl (Yd.move rfl) (Seg.step rfl rfl (Yd.move rfl) (Seg.step rfl rfl (Yd.lenStr rfl rfl) (Seg.step rfl rfl (Yd.move rfl) (Seg.step rfl rfl (Yd.subI rfl rfl (by omega)) (Seg.step rfl rfl (Yd.gtr rfl rfl) (Seg.step rfl rfl (Yd.pickF rfl rfl) (Seg.nil ?_)))))))
      refine At.then_ ?_
      refine Cd.condk rfl (fun h38 => ?_) (fun h38 => ?_)
      · exfalso; omega
      · refine Cd.skip (At.then_ (Cd.seq (Cd.region (Seg.alloc rfl rfl rfl (fun w44 b44 hE44 hB44 hb44 => ?_)))))
        have hlt44_0 := Nat.le_trans hE7.size hb44
        have hlt44_1 := Nat.lt_of_lt_of_le hB7.lt hb44
        have hlt44_2 := Nat.le_trans hE0.size hb44
        replace hE7 := Ext.trans hE7 hE44
        replace hB7 := hB7.ext hE44
        replace hE0 := Ext.trans hE0 hE44
        refine Seg.nil (At.then_ (Cd.seq (Cd.region (Seg.step rfl rfl (Yd.move rfl) (Seg.step rfl rfl (Yd.move rfl) (Seg.step rfl rfl (Yd.move rfl) (Seg.step rfl rfl (Yd.addI rfl rfl (by omega)) ?_)))))))
        refine Seg.step rfl rfl (Yd.slStrH rfl rfl rfl (NatOf.add (NatOf.cast _) (NatOf.cast _)) (by omega)) (Seg.step rfl rfl (Yd.assign rfl) (Seg.nil (At.then_ (Cd.seq (Cd.region (Seg.step rfl rfl (Yd.assign rfl) (Seg.nil ?_)))))))
        refine At.then_ (Cd.seq (Cd.seq (Cd.region (Seg.step rfl rfl (Yd.move rfl) (Seg.step rfl rfl (Yd.move rfl) ?_)))))
        (refine Seg.call rfl rfl (own_of rfl) rfl (rkind_any r.ty r.cl _) ?_; rw [hk]; rintro _ w67 ⟨rfl, hE67⟩)
        replace hE44 := Ext.trans hE44 hE67
        replace hB44 := hB44.ext hE67
        replace hE7 := Ext.trans hE7 hE67
        replace hB7 := hB7.ext hE67
        replace hE0 := Ext.trans hE0 hE67
        refine Seg.nil (At.then_ (Cd.block (Cd.seq (Cd.region (Seg.step rfl rfl (Yd.eql rfl rfl) (Seg.step rfl rfl (Yd.assign rfl) (Seg.nil ?_)))))))
        refine At.then_ (Cd.condF rfl (Cd.seq (Cd.region (Seg.step rfl rfl (Yd.eql rfl rfl) (Seg.step rfl rfl (Yd.assign rfl) (Seg.nil (At.then_ ?_)))))))
        refine Cd.condT rfl (Cd.region (Seg.step rfl rfl (Yd.move rfl) (Seg.step rfl rfl (Yd.move rfl) (Seg.step rfl rfl (Yd.slStrL rfl rfl rfl (NatOf.cast _) (by omega)) ?_))))
        (refine Seg.call rfl rfl (own_of rfl) rfl (gaddr_any ((s.take (at' + n)).drop at') b44 16 6 rz.cells _ hB44 rfl hdl (by decide)) ?_; rw [hcs]; rintro _ w89 ⟨rfl, hB9, hW9⟩; have hE9 : Ext w w89 := Ext.wr' (by assumption) hW9 (by omega); have hEm := Ext.refl w89; have hl44 := hB44.lt; have hb47 : b7 ≠ b44 := (by omega); have hB7 := hB7.wr hW9 hb47; clear hW9)
        refine Seg.step rfl rfl (Yd.assign rfl) (Seg.nil (At.blk (At.then_ (Cd.seq (Cd.seq (Cd.region (Seg.step rfl rfl (Yd.move rfl) ?_)))))))
        refine Seg.step rfl rfl (Yd.neq rfl rfl) (Seg.nil (At.then_ (Cd.condF rfl (Cd.skip (At.then_ (Cd.seq (Cd.region ?_)))))))
        refine Seg.step rfl rfl (Yd.loadN rfl rfl rfl hB9.row) (Seg.storeN rfl rfl rfl rfl hB7 rfl (by first | assumption | exact List.all_eq_true.1 rfl) (fun w107 hW107 hB107 => ?_))
        clear hB7
        replace hB9 := hB9.wr hW107 (by omega)
        replace hE9 := Ext.wr' hE9 hW107 (by omega)
        refine Seg.step rfl rfl (Yd.assign rfl) (Seg.nil (At.then_ (Cd.ret ?_)))
        exact At.ret Tryz.results73 (.cell rfl (run_loadVarN rfl rfl (show Bx _ b7 (dat r (.slice none 0 0) (.slice none 0 0)).cells by assumption).row) (.tmp rfl .nil)) ⟨⟨(.slice none 0 0), (.slice none 0 0), rfl, nil_own _ _ ht, nil_own _ _ hm⟩, hE9⟩
theorem dat_t1 {r : Rec} {u : Value} (ha : noA r) (hs : noS r) (hn : noN r) (hr : r.raw = []) : rz.cells.set 22 u = (dat r u (.slice none 0 0)).cells := dat_t (t := .slice none 0 0) ha hs hn hr
set_option maxHeartbeats 400000 in
theorem rgetT5 (r : Rec) (s : List UInt8) (at' n : Nat) (w : World) (hb : at' + n ≤ s.length) (hl : s.length ≤ 65535) (hk : kdN r.ty r.cl = 5) (ha : noA r) (hm : r.ml = []) (hs : noS r) (hn : noN r) (hr : r.raw = []) {f : Nat} (h : Rdn (s.take (at' + n)) f at' at' r.tg (s.take (at' + n)).length) (hz : szN r.tg ≤ 255) :
    Ret Tryz.prog 73 #[.string ⟨s.toArray⟩, .int .i64 (at' : Nat), .int .i64 (n : Nat), .int .i64 r.ty, .int .i64 r.cl] w (GetOk r w) := by
  have hE0 := Ext.refl w
  have hbl : (s.take (at' + n)).length = at' + n := by rw [List.length_take]; omega
  have h1 : ¬ (at' : Int) < 0 := by omega
  have h2 : ¬ (n : Int) < 0 := by omega
  have h3 : ¬ (s.length : Int) < (at' : Int) := by omega
  have h4 : ¬ (s.length : Int) - (at' : Int) < (n : Int) := by omega
  refine Ret.body Tryz.func73 rfl Tryz.ntmps73 rfl (Cd.seq (Cd.region (Seg.alloc rfl rfl rfl (fun w7 b7 hE7 hB7 hb7 => ?_))))
  have hlt7_0 := Nat.le_trans hE0.size hb7
  replace hE0 := Ext.trans hE0 hE7
  refine Seg.step rfl rfl (Yd.assign rfl) (Seg.nil (At.then_ (Cd.seq (Cd.seq (Cd.region (Seg.step rfl rfl (Yd.move rfl) (Seg.step rfl rfl (Yd.lss rfl rfl) ?_)))))))
  refine Seg.step rfl rfl (Yd.move rfl) (Seg.step rfl rfl (Yd.move rfl) (Seg.step rfl rfl (Yd.lss rfl rfl) (Seg.step rfl rfl (Yd.pickF rfl rfl) (Seg.step rfl rfl (Yd.move rfl) (Seg.step rfl rfl (Yd.move rfl) (Seg.step rfl rfl (Yd.move rfl) (Seg.step rfl rfl (Yd.lenStr rfl rfl) ?_)))))))
  refine Seg.step rfl rfl (Yd.gtr rfl rfl) (Seg.step rfl rfl (Yd.pickF rfl rfl) (Seg.step rfl rfl (Yd.move rfl) ?_))
  refine Seg.gsplitp rfl rfl (fun h27 => ?_) (fun h27 => ?_)
  · exfalso; omega
  · refine Seg.step rfl rfl (Yd.move rfl) (Seg.step rfl rfl (Yd.move rfl) (Seg.step rfl rfl (Yd.lenStr rfl rfl) (Seg.step rfl rfl (Yd.move rfl) (Seg.step rfl rfl (Yd.subI rfl rfl (by omega)) (Seg.step rfl rfl (Yd.gtr rfl rfl) (Seg.step rfl rfl (Yd.pickF rfl rfl) (Seg.nil ?_)))))))
    refine At.then_ ?_
    refine Cd.condk rfl (fun h38 => ?_) (fun h38 => ?_)
    · exfalso; omega
    · refine Cd.skip (At.then_ (Cd.seq (Cd.region (Seg.alloc rfl rfl rfl (fun w44 b44 hE44 hB44 hb44 => ?_)))))
      have hlt44_0 := Nat.le_trans hE7.size hb44
      have hlt44_1 := Nat.lt_of_lt_of_le hB7.lt hb44
      have hlt44_2 := Nat.le_trans hE0.size hb44
      replace hE7 := Ext.trans hE7 hE44
      replace hB7 := hB7.ext hE44
      replace hE0 := Ext.trans hE0 hE44
      refine Seg.nil (At.then_ (Cd.seq (Cd.region (Seg.step rfl rfl (Yd.move rfl) (Seg.step rfl rfl (Yd.move rfl) (Seg.step rfl rfl (Yd.move rfl) (Seg.step rfl rfl (Yd.addI rfl rfl (by omega)) ?_)))))))
      refine Seg.step rfl rfl (Yd.slStrH rfl rfl rfl (NatOf.add (NatOf.cast _) (NatOf.cast _)) (by omega)) (Seg.step rfl rfl (Yd.assign rfl) (Seg.nil (At.then_ (Cd.seq (Cd.region (Seg.step rfl rfl (Yd.assign rfl) (Seg.nil ?_)))))))
      refine At.then_ (Cd.seq (Cd.seq (Cd.region (Seg.step rfl rfl (Yd.move rfl) (Seg.step rfl rfl (Yd.move rfl) ?_)))))
      (refine Seg.call rfl rfl (own_of rfl) rfl (rkind_any r.ty r.cl _) ?_; rw [hk]; rintro _ w67 ⟨rfl, hE67⟩)
      replace hE44 := Ext.trans hE44 hE67
      replace hB44 := hB44.ext hE67
      replace hE7 := Ext.trans hE7 hE67
      replace hB7 := hB7.ext hE67
      replace hE0 := Ext.trans hE0 hE67
      refine Seg.nil (At.then_ (Cd.block (Cd.seq (Cd.region (Seg.step rfl rfl (Yd.eql rfl rfl) (Seg.step rfl rfl (Yd.assign rfl) (Seg.nil ?_)))))))
      refine At.then_ (Cd.condF rfl (Cd.seq (Cd.region (Seg.step rfl rfl (Yd.eql rfl rfl) (Seg.step rfl rfl (Yd.assign rfl) (Seg.nil (At.then_ ?_)))))))
      refine Cd.condF rfl (Cd.seq (Cd.seq (Cd.region (Seg.step rfl rfl (Yd.eql rfl rfl) (Seg.step rfl rfl (Yd.assign rfl) (Seg.nil (At.then_ ?_)))))))
      refine Cd.condT rfl (Cd.skip (At.then_ (Cd.condT rfl (Cd.region (Seg.step rfl rfl (Yd.move rfl) (Seg.step rfl rfl (Yd.move rfl) ?_))))))
      (have hszz : w.heap.size ≤ _ := Below.size (by assumption : Ext w _); refine Seg.call rfl rfl (own_of rfl) rfl (gtarget_any (s.take (at' + n)) b44 f at' r.tg rz.cells _ hB44 rfl h (by omega) hz) ?_; rintro _ w99 ⟨rfl, u, hB9, hO9, hW9⟩; rw [dat_t1 ha hs hn hr] at hB9; obtain ⟨ua, uc, rfl, _, _, _⟩ := own_sl hO9; have kO : Keep (OwnS w99 _ _ r.tg) := hO9; have hl7 := hB7.lt; have hE9 : Ext w w99 := Ext.wr' (by assumption) hW9 (by omega); have hEm := Ext.refl w99; have hl44 := hB44.lt; have hb47 : b7 ≠ b44 := (by omega); have hB7 := hB7.wr hW9 hb47; clear hO9 hW9)
      refine Seg.step rfl rfl (Yd.assign rfl) (Seg.nil (At.blk (At.then_ (Cd.seq (Cd.seq (Cd.region (Seg.step rfl rfl (Yd.move rfl) ?_)))))))
      refine Seg.step rfl rfl (Yd.neq rfl rfl) (Seg.nil (At.then_ (Cd.condF rfl (Cd.skip (At.then_ (Cd.seq (Cd.region ?_)))))))
      refine Seg.step rfl rfl (Yd.loadN rfl rfl rfl hB9.row) (Seg.storeN rfl rfl rfl rfl hB7 rfl (by first | assumption | exact List.all_eq_true.1 rfl) (fun w117 hW117 hB117 => ?_))
      clear hB7
      replace hB9 := hB9.wr hW117 (by omega)
      replace hE9 := Ext.wr' hE9 hW117 (by omega)
      refine Seg.step rfl rfl (Yd.assign rfl) (Seg.nil (At.then_ (Cd.ret ?_)))
      exact At.ret Tryz.results73 (.cell rfl (run_loadVarN rfl rfl (show Bx _ b7 (dat r (.slice ua r.tg.length uc) (.slice none 0 0)).cells by assumption).row) (.tmp rfl .nil)) ⟨⟨_, _, rfl, own_down (own_wr kO (show Wr b7 _ _ by assumption) (own_noblk kO hl7)) hszz, nil_own _ _ hm⟩, hE9⟩
set_option maxHeartbeats 400000 in
theorem rgetT12 (r : Rec) (s : List UInt8) (at' n : Nat) (w : World) (hb : at' + n ≤ s.length) (hl : s.length ≤ 65535) (hk : kdN r.ty r.cl = 12) (ha : noA r) (hm : r.ml = []) (hs : noS r) (hn : noN r) (hr : r.raw = []) {f : Nat} (h : Rdn (s.take (at' + n)) f at' at' r.tg (s.take (at' + n)).length) (hz : szN r.tg ≤ 255) :
    Ret Tryz.prog 73 #[.string ⟨s.toArray⟩, .int .i64 (at' : Nat), .int .i64 (n : Nat), .int .i64 r.ty, .int .i64 r.cl] w (GetOk r w) := by
  have hE0 := Ext.refl w
  have hbl : (s.take (at' + n)).length = at' + n := by rw [List.length_take]; omega
  have h1 : ¬ (at' : Int) < 0 := by omega
  have h2 : ¬ (n : Int) < 0 := by omega
  have h3 : ¬ (s.length : Int) < (at' : Int) := by omega
  have h4 : ¬ (s.length : Int) - (at' : Int) < (n : Int) := by omega
  refine Ret.body Tryz.func73 rfl Tryz.ntmps73 rfl (Cd.seq (Cd.region (Seg.alloc rfl rfl rfl (fun w7 b7 hE7 hB7 hb7 => ?_))))
  have hlt7_0 := Nat.le_trans hE0.size hb7
  replace hE0 := Ext.trans hE0 hE7
  refine Seg.step rfl rfl (Yd.assign rfl) (Seg.nil (At.then_ (Cd.seq (Cd.seq (Cd.region (Seg.step rfl rfl (Yd.move rfl) (Seg.step rfl rfl (Yd.lss rfl rfl) ?_)))))))
  refine Seg.step rfl rfl (Yd.move rfl) (Seg.step rfl rfl (Yd.move rfl) (Seg.step rfl rfl (Yd.lss rfl rfl) (Seg.step rfl rfl (Yd.pickF rfl rfl) (Seg.step rfl rfl (Yd.move rfl) (Seg.step rfl rfl (Yd.move rfl) (Seg.step rfl rfl (Yd.move rfl) (Seg.step rfl rfl (Yd.lenStr rfl rfl) ?_)))))))
  refine Seg.step rfl rfl (Yd.gtr rfl rfl) (Seg.step rfl rfl (Yd.pickF rfl rfl) (Seg.step rfl rfl (Yd.move rfl) ?_))
  refine Seg.gsplitp rfl rfl (fun h27 => ?_) (fun h27 => ?_)
  · exfalso; omega
  · refine Seg.step rfl rfl (Yd.move rfl) (Seg.step rfl rfl (Yd.move rfl) (Seg.step rfl rfl (Yd.lenStr rfl rfl) (Seg.step rfl rfl (Yd.move rfl) (Seg.step rfl rfl (Yd.subI rfl rfl (by omega)) (Seg.step rfl rfl (Yd.gtr rfl rfl) (Seg.step rfl rfl (Yd.pickF rfl rfl) (Seg.nil ?_)))))))
    refine At.then_ ?_
    refine Cd.condk rfl (fun h38 => ?_) (fun h38 => ?_)
    · exfalso; omega
    · refine Cd.skip (At.then_ (Cd.seq (Cd.region (Seg.alloc rfl rfl rfl (fun w44 b44 hE44 hB44 hb44 => ?_)))))
      have hlt44_0 := Nat.le_trans hE7.size hb44
      have hlt44_1 := Nat.lt_of_lt_of_le hB7.lt hb44
      have hlt44_2 := Nat.le_trans hE0.size hb44
      replace hE7 := Ext.trans hE7 hE44
      replace hB7 := hB7.ext hE44
      replace hE0 := Ext.trans hE0 hE44
      refine Seg.nil (At.then_ (Cd.seq (Cd.region (Seg.step rfl rfl (Yd.move rfl) (Seg.step rfl rfl (Yd.move rfl) (Seg.step rfl rfl (Yd.move rfl) (Seg.step rfl rfl (Yd.addI rfl rfl (by omega)) ?_)))))))
      refine Seg.step rfl rfl (Yd.slStrH rfl rfl rfl (NatOf.add (NatOf.cast _) (NatOf.cast _)) (by omega)) (Seg.step rfl rfl (Yd.assign rfl) (Seg.nil (At.then_ (Cd.seq (Cd.region (Seg.step rfl rfl (Yd.assign rfl) (Seg.nil ?_)))))))
      refine At.then_ (Cd.seq (Cd.seq (Cd.region (Seg.step rfl rfl (Yd.move rfl) (Seg.step rfl rfl (Yd.move rfl) ?_)))))
      (refine Seg.call rfl rfl (own_of rfl) rfl (rkind_any r.ty r.cl _) ?_; rw [hk]; rintro _ w67 ⟨rfl, hE67⟩)
      replace hE44 := Ext.trans hE44 hE67
      replace hB44 := hB44.ext hE67
      replace hE7 := Ext.trans hE7 hE67
      replace hB7 := hB7.ext hE67
      replace hE0 := Ext.trans hE0 hE67
      refine Seg.nil (At.then_ (Cd.block (Cd.seq (Cd.region (Seg.step rfl rfl (Yd.eql rfl rfl) (Seg.step rfl rfl (Yd.assign rfl) (Seg.nil ?_)))))))
      refine At.then_ (Cd.condF rfl (Cd.seq (Cd.region (Seg.step rfl rfl (Yd.eql rfl rfl) (Seg.step rfl rfl (Yd.assign rfl) (Seg.nil (At.then_ ?_)))))))
      refine Cd.condF rfl (Cd.seq (Cd.seq (Cd.region (Seg.step rfl rfl (Yd.eql rfl rfl) (Seg.step rfl rfl (Yd.assign rfl) (Seg.nil (At.then_ ?_)))))))
      refine Cd.condF rfl (Cd.region (Seg.step rfl rfl (Yd.eql rfl rfl) (Seg.step rfl rfl (Yd.assign rfl) (Seg.nil (At.then_ (Cd.condT rfl (Cd.region ?_)))))))
      refine Seg.step rfl rfl (Yd.move rfl) (Seg.step rfl rfl (Yd.move rfl) ?_)
      (have hszz : w.heap.size ≤ _ := Below.size (by assumption : Ext w _); refine Seg.call rfl rfl (own_of rfl) rfl (gtarget_any (s.take (at' + n)) b44 f at' r.tg rz.cells _ hB44 rfl h (by omega) hz) ?_; rintro _ w102 ⟨rfl, u, hB9, hO9, hW9⟩; rw [dat_t1 ha hs hn hr] at hB9; obtain ⟨ua, uc, rfl, _, _, _⟩ := own_sl hO9; have kO : Keep (OwnS w102 _ _ r.tg) := hO9; have hl7 := hB7.lt; have hE9 : Ext w w102 := Ext.wr' (by assumption) hW9 (by omega); have hEm := Ext.refl w102; have hl44 := hB44.lt; have hb47 : b7 ≠ b44 := (by omega); have hB7 := hB7.wr hW9 hb47; clear hO9 hW9)
      refine Seg.step rfl rfl (Yd.assign rfl) (Seg.nil (At.blk (At.then_ (Cd.seq (Cd.seq (Cd.region (Seg.step rfl rfl (Yd.move rfl) ?_)))))))
      refine Seg.step rfl rfl (Yd.neq rfl rfl) (Seg.nil (At.then_ (Cd.condF rfl (Cd.skip (At.then_ (Cd.seq (Cd.region ?_)))))))
      refine Seg.step rfl rfl (Yd.loadN rfl rfl rfl hB9.row) (Seg.storeN rfl rfl rfl rfl hB7 rfl (by first | assumption | exact List.all_eq_true.1 rfl) (fun w120 hW120 hB120 => ?_))
      clear hB7
      replace hB9 := hB9.wr hW120 (by omega)
      replace hE9 := Ext.wr' hE9 hW120 (by omega)
      refine Seg.step rfl rfl (Yd.assign rfl) (Seg.nil (At.then_ (Cd.ret ?_)))
      exact At.ret Tryz.results73 (.cell rfl (run_loadVarN rfl rfl (show Bx _ b7 (dat r (.slice ua r.tg.length uc) (.slice none 0 0)).cells by assumption).row) (.tmp rfl .nil)) ⟨⟨_, _, rfl, own_down (own_wr kO (show Wr b7 _ _ by assumption) (own_noblk kO hl7)) hszz, nil_own _ _ hm⟩, hE9⟩
set_option maxHeartbeats 400000 in
theorem rgetS (r : Rec) (s : List UInt8) (at' n : Nat) (w : World) (hb : at' + n ≤ s.length) (hl : s.length ≤ 65535) (hk : kdN r.ty r.cl = 33) (ha : noA r) (hm : r.ml = []) (hn : noN r) (hr : r.raw = []) {f : Nat} (h6 : at' + 6 ≤ (s.take (at' + n)).length)
    (e1 : r.pri = (deB (((s.take (at' + n)).drop at').take 2) : Nat)) (e2 : r.wt = (deB (((s.take (at' + n)).drop (at' + 2)).take 2) : Nat)) (e3 : r.pt = (deB (((s.take (at' + n)).drop (at' + 4)).take 2) : Nat)) (h : Rdn (s.take (at' + n)) f (at' + 6) (at' + 6) r.tg (s.take (at' + n)).length) (hz : szN r.tg ≤ 255) :
    Ret Tryz.prog 73 #[.string ⟨s.toArray⟩, .int .i64 (at' : Nat), .int .i64 (n : Nat), .int .i64 r.ty, .int .i64 r.cl] w (GetOk r w) := by
  have hE0 := Ext.refl w
  have hbl : (s.take (at' + n)).length = at' + n := by rw [List.length_take]; omega
  have h1 : ¬ (at' : Int) < 0 := by omega
  have h2 : ¬ (n : Int) < 0 := by omega
  have h3 : ¬ (s.length : Int) < (at' : Int) := by omega
  have h4 : ¬ (s.length : Int) - (at' : Int) < (n : Int) := by omega
  refine Ret.body Tryz.func73 rfl Tryz.ntmps73 rfl (Cd.seq (Cd.region (Seg.alloc rfl rfl rfl (fun w9 b9 hE9 hB9 hb9 => ?_))))
  have hlt9_0 := Nat.le_trans hE0.size hb9
  replace hE0 := Ext.trans hE0 hE9
  refine Seg.step rfl rfl (Yd.assign rfl) (Seg.nil (At.then_ (Cd.seq (Cd.seq (Cd.region (Seg.step rfl rfl (Yd.move rfl) (Seg.step rfl rfl (Yd.lss rfl rfl) ?_)))))))
  refine Seg.step rfl rfl (Yd.move rfl) (Seg.step rfl rfl (Yd.move rfl) (Seg.step rfl rfl (Yd.lss rfl rfl) (Seg.step rfl rfl (Yd.pickF rfl rfl) (Seg.step rfl rfl (Yd.move rfl) (Seg.step rfl rfl (Yd.move rfl) (Seg.step rfl rfl (Yd.move rfl) (Seg.step rfl rfl (Yd.lenStr rfl rfl) ?_)))))))
  refine Seg.step rfl rfl (Yd.gtr rfl rfl) (Seg.step rfl rfl (Yd.pickF rfl rfl) (Seg.step rfl rfl (Yd.move rfl) ?_))
  refine Seg.gsplitp rfl rfl (fun h29 => ?_) (fun h29 => ?_)
  · exfalso; omega
  · refine Seg.step rfl rfl (Yd.move rfl) (Seg.step rfl rfl (Yd.move rfl) (Seg.step rfl rfl (Yd.lenStr rfl rfl) (Seg.step rfl rfl (Yd.move rfl) (Seg.step rfl rfl (Yd.subI rfl rfl (by omega)) (Seg.step rfl rfl (Yd.gtr rfl rfl) (Seg.step rfl rfl (Yd.pickF rfl rfl) (Seg.nil ?_)))))))
    refine At.then_ ?_
    refine Cd.condk rfl (fun h40 => ?_) (fun h40 => ?_)
    · exfalso; omega
    · refine Cd.skip (At.then_ (Cd.seq (Cd.region (Seg.alloc rfl rfl rfl (fun w46 b46 hE46 hB46 hb46 => ?_)))))
      have hlt46_0 := Nat.le_trans hE9.size hb46
      have hlt46_1 := Nat.lt_of_lt_of_le hB9.lt hb46
      have hlt46_2 := Nat.le_trans hE0.size hb46
      replace hE9 := Ext.trans hE9 hE46
      replace hB9 := hB9.ext hE46
      replace hE0 := Ext.trans hE0 hE46
      refine Seg.nil (At.then_ (Cd.seq (Cd.region (Seg.step rfl rfl (Yd.move rfl) (Seg.step rfl rfl (Yd.move rfl) (Seg.step rfl rfl (Yd.move rfl) (Seg.step rfl rfl (Yd.addI rfl rfl (by omega)) ?_)))))))
      refine Seg.step rfl rfl (Yd.slStrH rfl rfl rfl (NatOf.add (NatOf.cast _) (NatOf.cast _)) (by omega)) (Seg.step rfl rfl (Yd.assign rfl) (Seg.nil (At.then_ (Cd.seq (Cd.region (Seg.step rfl rfl (Yd.assign rfl) (Seg.nil ?_)))))))
      refine At.then_ (Cd.seq (Cd.seq (Cd.region (Seg.step rfl rfl (Yd.move rfl) (Seg.step rfl rfl (Yd.move rfl) ?_)))))
      (refine Seg.call rfl rfl (own_of rfl) rfl (rkind_any r.ty r.cl _) ?_; rw [hk]; rintro _ w69 ⟨rfl, hE69⟩)
      replace hE46 := Ext.trans hE46 hE69
      replace hB46 := hB46.ext hE69
      replace hE9 := Ext.trans hE9 hE69
      replace hB9 := hB9.ext hE69
      replace hE0 := Ext.trans hE0 hE69
      refine Seg.nil (At.then_ (Cd.block (Cd.seq (Cd.region (Seg.step rfl rfl (Yd.eql rfl rfl) (Seg.step rfl rfl (Yd.assign rfl) (Seg.nil ?_)))))))
      refine At.then_ (Cd.condF rfl (Cd.seq (Cd.region (Seg.step rfl rfl (Yd.eql rfl rfl) (Seg.step rfl rfl (Yd.assign rfl) (Seg.nil (At.then_ ?_)))))))
      refine Cd.condF rfl (Cd.seq (Cd.seq (Cd.region (Seg.step rfl rfl (Yd.eql rfl rfl) (Seg.step rfl rfl (Yd.assign rfl) (Seg.nil (At.then_ ?_)))))))
      refine Cd.condF rfl (Cd.region (Seg.step rfl rfl (Yd.eql rfl rfl) (Seg.step rfl rfl (Yd.assign rfl) (Seg.nil (At.then_ (Cd.condF rfl (Cd.seq ?_)))))))
      refine Cd.region (Seg.step rfl rfl (Yd.eql rfl rfl) (Seg.step rfl rfl (Yd.assign rfl) (Seg.nil (At.then_ (Cd.condT rfl (Cd.region (Seg.step rfl rfl (Yd.move rfl) ?_)))))))
      refine Seg.step rfl rfl (Yd.move rfl) ?_
      (have hszz : w.heap.size ≤ _ := Below.size (by assumption : Ext w _); refine Seg.call rfl rfl (own_of rfl) rfl (gsrv_any (s.take (at' + n)) b46 f at' r.tg rz.cells _ hB46 rfl h6 h (by omega) hz) ?_; rw [← e1, ← e2, ← e3]; rintro _ w111 ⟨rfl, u, hBq, hO9, hW9⟩; rw [dat_s ha hn hr] at hBq; obtain ⟨ua, uc, rfl, _, _, _⟩ := own_sl hO9; have kO : Keep (OwnS w111 _ _ r.tg) := hO9; have hl7 := hB9.lt; have hE9 : Ext w w111 := Ext.wr' (by assumption) hW9 (by omega); have hEm := Ext.refl w111; have hl44 := hB46.lt; have hbq : b9 ≠ b46 := (by omega); have hB9 := hB9.wr hW9 hbq; clear hO9 hW9)
      refine Seg.step rfl rfl (Yd.assign rfl) (Seg.nil (At.blk (At.then_ (Cd.seq (Cd.seq (Cd.region (Seg.step rfl rfl (Yd.move rfl) ?_)))))))
      refine Seg.step rfl rfl (Yd.neq rfl rfl) (Seg.nil (At.then_ (Cd.condF rfl (Cd.skip (At.then_ (Cd.seq (Cd.region ?_)))))))
      refine Seg.step rfl rfl (Yd.loadN rfl rfl rfl hBq.row) (Seg.storeN rfl rfl rfl rfl hB9 rfl (by first | assumption | exact List.all_eq_true.1 rfl) (fun w129 hW129 hB129 => ?_))
      clear hB9
      replace hBq := hBq.wr hW129 (by omega)
      replace hE9 := Ext.wr' hE9 hW129 (by omega)
      refine Seg.step rfl rfl (Yd.assign rfl) (Seg.nil (At.then_ (Cd.ret ?_)))
      exact At.ret Tryz.results73 (.cell rfl (run_loadVarN rfl rfl (show Bx _ b9 (dat r (.slice ua r.tg.length uc) (.slice none 0 0)).cells by assumption).row) (.tmp rfl .nil)) ⟨⟨_, _, rfl, own_down (own_wr kO (show Wr b9 _ _ by assumption) (own_noblk kO hl7)) hszz, nil_own _ _ hm⟩, hE9⟩
set_option maxHeartbeats 400000 in
theorem rgetO (r : Rec) (s : List UInt8) (at' n : Nat) (w : World) (hb : at' + n ≤ s.length) (hl : s.length ≤ 65535) (hk : kdN r.ty r.cl = 6) (ha : noA r) (hs : noS r) (hr : r.raw = []) {f g e1 e2 : Nat} (h : Rdn (s.take (at' + n)) f at' at' r.tg e1) (h' : Rdn (s.take (at' + n)) g e1 e1 r.ml e2) (h20 : e2 + 20 = (s.take (at' + n)).length)
    (hn : r.nums = [(deB (((s.take (at' + n)).drop e2).take 4) : Int), (deB (((s.take (at' + n)).drop (e2 + 4)).take 4) : Int), (deB (((s.take (at' + n)).drop (e2 + 8)).take 4) : Int), (deB (((s.take (at' + n)).drop (e2 + 12)).take 4) : Int), (deB (((s.take (at' + n)).drop (e2 + 16)).take 4) : Int)]) (hz : szN r.tg ≤ 255) (hy : szN r.ml ≤ 255) :
    Ret Tryz.prog 73 #[.string ⟨s.toArray⟩, .int .i64 (at' : Nat), .int .i64 (n : Nat), .int .i64 r.ty, .int .i64 r.cl] w (GetOk r w) := by
  have hE0 := Ext.refl w
  have hbl : (s.take (at' + n)).length = at' + n := by rw [List.length_take]; omega
  have h1 : ¬ (at' : Int) < 0 := by omega
  have h2 : ¬ (n : Int) < 0 := by omega
  have h3 : ¬ (s.length : Int) < (at' : Int) := by omega
  have h4 : ¬ (s.length : Int) - (at' : Int) < (n : Int) := by omega
  refine Ret.body Tryz.func73 rfl Tryz.ntmps73 rfl (Cd.seq (Cd.region (Seg.alloc rfl rfl rfl (fun w23 b23 hE23 hB23 hb23 => ?_))))
  have hlt23_0 := Nat.le_trans hE0.size hb23
  replace hE0 := Ext.trans hE0 hE23
  refine Seg.step rfl rfl (Yd.assign rfl) (Seg.nil (At.then_ (Cd.seq (Cd.seq (Cd.region (Seg.step rfl rfl (Yd.move rfl) (Seg.step rfl rfl (Yd.lss rfl rfl) ?_)))))))
  refine Seg.step rfl rfl (Yd.move rfl) (Seg.step rfl rfl (Yd.move rfl) (Seg.step rfl rfl (Yd.lss rfl rfl) (Seg.step rfl rfl (Yd.pickF rfl rfl) (Seg.step rfl rfl (Yd.move rfl) (Seg.step rfl rfl (Yd.move rfl) (Seg.step rfl rfl (Yd.move rfl) (Seg.step rfl rfl (Yd.lenStr rfl rfl) ?_)))))))
  refine Seg.step rfl rfl (Yd.gtr rfl rfl) (Seg.step rfl rfl (Yd.pickF rfl rfl) (Seg.step rfl rfl (Yd.move rfl) ?_))
  refine Seg.gsplitp rfl rfl (fun h43 => ?_) (fun h43 => ?_)
  · exfalso; omega
  · refine Seg.step rfl rfl (Yd.move rfl) (Seg.step rfl rfl (Yd.move rfl) (Seg.step rfl rfl (Yd.lenStr rfl rfl) (Seg.step rfl rfl (Yd.move rfl) (Seg.step rfl rfl (Yd.subI rfl rfl (by omega)) (Seg.step rfl rfl (Yd.gtr rfl rfl) (Seg.step rfl rfl (Yd.pickF rfl rfl) (Seg.nil ?_)))))))
    refine At.then_ ?_
    refine Cd.condk rfl (fun h54 => ?_) (fun h54 => ?_)
    · exfalso; omega
    · refine Cd.skip (At.then_ (Cd.seq (Cd.region (Seg.alloc rfl rfl rfl (fun w60 b60 hE60 hB60 hb60 => ?_)))))
      have hlt60_0 := Nat.le_trans hE23.size hb60
      have hlt60_1 := Nat.lt_of_lt_of_le hB23.lt hb60
      have hlt60_2 := Nat.le_trans hE0.size hb60
      replace hE23 := Ext.trans hE23 hE60
      replace hB23 := hB23.ext hE60
      replace hE0 := Ext.trans hE0 hE60
      refine Seg.nil (At.then_ (Cd.seq (Cd.region (Seg.step rfl rfl (Yd.move rfl) (Seg.step rfl rfl (Yd.move rfl) (Seg.step rfl rfl (Yd.move rfl) (Seg.step rfl rfl (Yd.addI rfl rfl (by omega)) ?_)))))))
      refine Seg.step rfl rfl (Yd.slStrH rfl rfl rfl (NatOf.add (NatOf.cast _) (NatOf.cast _)) (by omega)) (Seg.step rfl rfl (Yd.assign rfl) (Seg.nil (At.then_ (Cd.seq (Cd.region (Seg.step rfl rfl (Yd.assign rfl) (Seg.nil ?_)))))))
      refine At.then_ (Cd.seq (Cd.seq (Cd.region (Seg.step rfl rfl (Yd.move rfl) (Seg.step rfl rfl (Yd.move rfl) ?_)))))
      (refine Seg.call rfl rfl (own_of rfl) rfl (rkind_any r.ty r.cl _) ?_; rw [hk]; rintro _ w83 ⟨rfl, hE83⟩)
      replace hE60 := Ext.trans hE60 hE83
      replace hB60 := hB60.ext hE83
      replace hE23 := Ext.trans hE23 hE83
      replace hB23 := hB23.ext hE83
      replace hE0 := Ext.trans hE0 hE83
      refine Seg.nil (At.then_ (Cd.block (Cd.seq (Cd.region (Seg.step rfl rfl (Yd.eql rfl rfl) (Seg.step rfl rfl (Yd.assign rfl) (Seg.nil ?_)))))))
      refine At.then_ (Cd.condF rfl (Cd.seq (Cd.region (Seg.step rfl rfl (Yd.eql rfl rfl) (Seg.step rfl rfl (Yd.assign rfl) (Seg.nil (At.then_ ?_)))))))
      refine Cd.condF rfl (Cd.seq (Cd.seq (Cd.region (Seg.step rfl rfl (Yd.eql rfl rfl) (Seg.step rfl rfl (Yd.assign rfl) (Seg.nil (At.then_ ?_)))))))
      refine Cd.condF rfl (Cd.region (Seg.step rfl rfl (Yd.eql rfl rfl) (Seg.step rfl rfl (Yd.assign rfl) (Seg.nil (At.then_ (Cd.condF rfl (Cd.seq ?_)))))))
      refine Cd.region (Seg.step rfl rfl (Yd.eql rfl rfl) (Seg.step rfl rfl (Yd.assign rfl) (Seg.nil (At.then_ (Cd.condF rfl (Cd.seq (Cd.region ?_)))))))
      refine Seg.step rfl rfl (Yd.eql rfl rfl) (Seg.step rfl rfl (Yd.assign rfl) (Seg.nil (At.then_ (Cd.condT rfl (Cd.region (Seg.step rfl rfl (Yd.move rfl) (Seg.step rfl rfl (Yd.move rfl) ?_)))))))
      (have hszz : w.heap.size ≤ _ := Below.size (by assumption : Ext w _); refine Seg.call rfl rfl (own_of rfl) rfl (gsoa_any (s.take (at' + n)) b60 f g at' e1 e2 r.tg r.ml rz.cells _ hB60 rfl h h' h20 (by omega) hz hy) ?_; rintro _ w132 ⟨rfl, u, t, hBq, hO9, hT9, hW9⟩; rw [dat_o ha hs hr hn] at hBq; obtain ⟨ua, uc, rfl, _, _, _⟩ := own_sl hO9; obtain ⟨ta, tc, rfl, _, _, _⟩ := own_sl hT9; have kO : Keep (OwnS w132 _ _ r.tg) := hO9; have kT : Keep (OwnS w132 _ _ r.ml) := hT9; have hl7 := hB23.lt; have hE9 : Ext w w132 := Ext.wr' (by assumption) hW9 (by omega); have hEm := Ext.refl w132; have hl44 := hB60.lt; have hbq : b23 ≠ b60 := (by omega); have hB23 := hB23.wr hW9 hbq; clear hO9 hT9 hW9)
      refine Seg.step rfl rfl (Yd.assign rfl) (Seg.nil (At.blk (At.then_ (Cd.seq (Cd.seq (Cd.region (Seg.step rfl rfl (Yd.move rfl) ?_)))))))
      refine Seg.step rfl rfl (Yd.neq rfl rfl) (Seg.nil (At.then_ (Cd.condF rfl (Cd.skip (At.then_ (Cd.seq (Cd.region ?_)))))))
      refine Seg.step rfl rfl (Yd.loadN rfl rfl rfl hBq.row) (Seg.storeN rfl rfl rfl rfl hB23 rfl (by first | assumption | exact List.all_eq_true.1 rfl) (fun w150 hW150 hB150 => ?_))
      clear hB23
      replace hBq := hBq.wr hW150 (by omega)
      replace hE9 := Ext.wr' hE9 hW150 (by omega)
      refine Seg.step rfl rfl (Yd.assign rfl) (Seg.nil (At.then_ (Cd.ret ?_)))
      exact At.ret Tryz.results73 (.cell rfl (run_loadVarN rfl rfl (show Bx _ b23 (dat r (.slice ua r.tg.length uc) (.slice ta r.ml.length tc)).cells by assumption).row) (.tmp rfl .nil)) ⟨⟨_, _, rfl, own_down (own_wr kO (show Wr b23 _ _ by assumption) (own_noblk kO hl7)) hszz, own_down (own_wr kT (show Wr b23 _ _ by assumption) (own_noblk kT hl7)) hszz⟩, hE9⟩
set_option maxHeartbeats 400000 in
theorem rgetR (r : Rec) (s : List UInt8) (at' n : Nat) (w : World) (hb : at' + n ≤ s.length) (hl : s.length ≤ 65535) (hk : kdN r.ty r.cl = 0) (ha : noA r) (ht : r.tg = []) (hm : r.ml = []) (hs : noS r) (hn : noN r) (h : (s.take (at' + n)).drop at' = r.raw) :
    Ret Tryz.prog 73 #[.string ⟨s.toArray⟩, .int .i64 (at' : Nat), .int .i64 (n : Nat), .int .i64 r.ty, .int .i64 r.cl] w (GetOk r w) := by
  have hE0 := Ext.refl w
  have hbl : (s.take (at' + n)).length = at' + n := by rw [List.length_take]; omega
  have h1 : ¬ (at' : Int) < 0 := by omega
  have h2 : ¬ (n : Int) < 0 := by omega
  have h3 : ¬ (s.length : Int) < (at' : Int) := by omega
  have h4 : ¬ (s.length : Int) - (at' : Int) < (n : Int) := by omega
  refine Ret.body Tryz.func73 rfl Tryz.ntmps73 rfl (Cd.seq (Cd.region (Seg.alloc rfl rfl rfl (fun w7 b7 hE7 hB7 hb7 => ?_))))
  have hlt7_0 := Nat.le_trans hE0.size hb7
  replace hE0 := Ext.trans hE0 hE7
  refine Seg.step rfl rfl (Yd.assign rfl) (Seg.nil (At.then_ (Cd.seq (Cd.seq (Cd.region (Seg.step rfl rfl (Yd.move rfl) (Seg.step rfl rfl (Yd.lss rfl rfl) ?_)))))))
  refine Seg.step rfl rfl (Yd.move rfl) (Seg.step rfl rfl (Yd.move rfl) (Seg.step rfl rfl (Yd.lss rfl rfl) (Seg.step rfl rfl (Yd.pickF rfl rfl) (Seg.step rfl rfl (Yd.move rfl) (Seg.step rfl rfl (Yd.move rfl) (Seg.step rfl rfl (Yd.move rfl) (Seg.step rfl rfl (Yd.lenStr rfl rfl) ?_)))))))
  refine Seg.step rfl rfl (Yd.gtr rfl rfl) (Seg.step rfl rfl (Yd.pickF rfl rfl) (Seg.step rfl rfl (Yd.move rfl) ?_))
  refine Seg.gsplitp rfl rfl (fun h27 => ?_) (fun h27 => ?_)
  · exfalso; omega
  · refine Seg.step rfl rfl (Yd.move rfl) (Seg.step rfl rfl (Yd.move rfl) (Seg.step rfl rfl (Yd.lenStr rfl rfl) (Seg.step rfl rfl (Yd.move rfl) (Seg.step rfl rfl (Yd.subI rfl rfl (by omega)) (Seg.step rfl rfl (Yd.gtr rfl rfl) (Seg.step rfl rfl (Yd.pickF rfl rfl) (Seg.nil ?_)))))))
    refine At.then_ ?_
    refine Cd.condk rfl (fun h38 => ?_) (fun h38 => ?_)
    · exfalso; omega
    · refine Cd.skip (At.then_ (Cd.seq (Cd.region (Seg.alloc rfl rfl rfl (fun w44 b44 hE44 hB44 hb44 => ?_)))))
      have hlt44_0 := Nat.le_trans hE7.size hb44
      have hlt44_1 := Nat.lt_of_lt_of_le hB7.lt hb44
      have hlt44_2 := Nat.le_trans hE0.size hb44
      replace hE7 := Ext.trans hE7 hE44
      replace hB7 := hB7.ext hE44
      replace hE0 := Ext.trans hE0 hE44
      refine Seg.nil (At.then_ (Cd.seq (Cd.region (Seg.step rfl rfl (Yd.move rfl) (Seg.step rfl rfl (Yd.move rfl) (Seg.step rfl rfl (Yd.move rfl) (Seg.step rfl rfl (Yd.addI rfl rfl (by omega)) ?_)))))))
      refine Seg.step rfl rfl (Yd.slStrH rfl rfl rfl (NatOf.add (NatOf.cast _) (NatOf.cast _)) (by omega)) (Seg.step rfl rfl (Yd.assign rfl) (Seg.nil (At.then_ (Cd.seq (Cd.region (Seg.step rfl rfl (Yd.assign rfl) (Seg.nil ?_)))))))
      refine At.then_ (Cd.seq (Cd.seq (Cd.region (Seg.step rfl rfl (Yd.move rfl) (Seg.step rfl rfl (Yd.move rfl) ?_)))))
      (refine Seg.call rfl rfl (own_of rfl) rfl (rkind_any r.ty r.cl _) ?_; rw [hk]; rintro _ w67 ⟨rfl, hE67⟩)
      replace hE44 := Ext.trans hE44 hE67
      replace hB44 := hB44.ext hE67
      replace hE7 := Ext.trans hE7 hE67
      replace hB7 := hB7.ext hE67
      replace hE0 := Ext.trans hE0 hE67
      refine Seg.nil (At.then_ (Cd.block (Cd.seq (Cd.region (Seg.step rfl rfl (Yd.eql rfl rfl) (Seg.step rfl rfl (Yd.assign rfl) (Seg.nil ?_)))))))
      refine At.then_ (Cd.condF rfl (Cd.seq (Cd.region (Seg.step rfl rfl (Yd.eql rfl rfl) (Seg.step rfl rfl (Yd.assign rfl) (Seg.nil (At.then_ ?_)))))))
      refine Cd.condF rfl (Cd.seq (Cd.seq (Cd.region (Seg.step rfl rfl (Yd.eql rfl rfl) (Seg.step rfl rfl (Yd.assign rfl) (Seg.nil (At.then_ ?_)))))))
      refine Cd.condF rfl (Cd.region (Seg.step rfl rfl (Yd.eql rfl rfl) (Seg.step rfl rfl (Yd.assign rfl) (Seg.nil (At.then_ (Cd.condF rfl (Cd.seq ?_)))))))
      refine Cd.region (Seg.step rfl rfl (Yd.eql rfl rfl) (Seg.step rfl rfl (Yd.assign rfl) (Seg.nil (At.then_ (Cd.condF rfl (Cd.seq (Cd.region ?_)))))))
      refine Seg.step rfl rfl (Yd.eql rfl rfl) (Seg.step rfl rfl (Yd.assign rfl) (Seg.nil (At.then_ (Cd.condF rfl (Cd.region (Seg.step rfl rfl (Yd.move rfl) (Seg.step rfl rfl (Yd.move rfl) ?_)))))))
      refine Seg.step rfl rfl (Yd.slStrL rfl rfl rfl (NatOf.cast _) (by omega)) (Seg.step rfl rfl (Yd.fieldAddr rfl rfl) ?_)
      (rw [h]; refine Seg.store1 (k := 32) rfl rfl rfl rfl rfl hB44 (by decide) (fun w118 hW9 hB9 => ?_); rw [show zT57.cells.toList = rz.cells from rfl, dat_r ha hs hn] at hB9; have hE9 : Ext w w118 := Ext.wr' (by assumption) hW9 (by omega); have hEm := Ext.refl w118; have hl44 := hB44.lt; have hb47 : b7 ≠ b44 := (by omega); have hB7 := hB7.wr hW9 hb47; clear hW9)
      refine Seg.nil (At.blk (At.then_ (Cd.seq (Cd.seq (Cd.region (Seg.step rfl rfl (Yd.move rfl) (Seg.step rfl rfl (Yd.neq rfl rfl) ?_)))))))
      refine Seg.nil (At.then_ (Cd.condF rfl (Cd.skip (At.then_ (Cd.seq (Cd.region (Seg.step rfl rfl (Yd.loadN rfl rfl rfl hB9.row) ?_)))))))
      refine Seg.storeN rfl rfl rfl rfl hB7 rfl (by first | assumption | exact List.all_eq_true.1 rfl) (fun w135 hW135 hB135 => ?_)
      clear hB7
      replace hB9 := hB9.wr hW135 (by omega)
      replace hE9 := Ext.wr' hE9 hW135 (by omega)
      refine Seg.step rfl rfl (Yd.assign rfl) (Seg.nil (At.then_ (Cd.ret ?_)))
      exact At.ret Tryz.results73 (.cell rfl (run_loadVarN rfl rfl (show Bx _ b7 (dat r (.slice none 0 0) (.slice none 0 0)).cells by assumption).row) (.tmp rfl .nil)) ⟨⟨(.slice none 0 0), (.slice none 0 0), rfl, nil_own _ _ ht, nil_own _ _ hm⟩, hE9⟩
theorem rget_any (r : Rec) (s : List UInt8) (at' n : Nat) (w : World) (hb : at' + n ≤ s.length) (hl : s.length ≤ 65535) (hD : DatRd (s.take (at' + n)) at' r) (hok : DatOk r) :
    Ret Tryz.prog 73 #[.string ⟨s.toArray⟩, .int .i64 (at' : Nat), .int .i64 (n : Nat), .int .i64 r.ty, .int .i64 r.cl] w (GetOk r w) := by
  have hbl : (s.take (at' + n)).length = at' + n := by rw [List.length_take]; omega
  cases hD with
  | a k hk hl2 h =>
    cases hok with
    | a f hf ha ht hm hs hn hr => exact rgetA f k r s at' n w hk hf ha ht hm hs hn hr hb hl (by omega) h
    | t h => exfalso; omega
    | s h => exfalso; omega
    | o h => exfalso; omega
    | r h => exfalso; omega
  | t hk h =>
    cases hok with
    | a f hf => exfalso; omega
    | t _ ha ht hm hs hn hr =>
      rcases hk with hk | hk
      · exact rgetT5 r s at' n w hb hl hk ha hm hs hn hr h (chk_ok ht).2
      · exact rgetT12 r s at' n w hb hl hk ha hm hs hn hr h (chk_ok ht).2
    | s h => exfalso; omega
    | o h => exfalso; omega
    | r h => exfalso; omega
  | s hk h6 e1 e2 e3 h =>
    cases hok with
    | a f hf => exfalso; omega
    | t h => exfalso; omega
    | s _ ha ht hm hs hn hr => exact rgetS r s at' n w hb hl hk ha hm hn hr h6 e1 e2 e3 h (chk_ok ht).2
    | o h => exfalso; omega
    | r h => exfalso; omega
  | o hk h1 h2 h3 h4 =>
    cases hok with
    | a f hf => exfalso; omega
    | t h => exfalso; omega
    | s h => exfalso; omega
    | o _ ha ht hm hs hn hr => exact rgetO r s at' n w hb hl hk ha hs hr h1 h2 h3 h4 (chk_ok ht).2 (chk_ok hm).2
    | r h => exfalso; omega
  | r hk hl2 h =>
    cases hok with
    | a f hf => exfalso; omega
    | t h => exfalso; omega
    | s h => exfalso; omega
    | o h => exfalso; omega
    | r _ ha ht hm hs hn hr => exact rgetR r s at' n w hb hl hk ha ht hm hs hn h
end Go.Proofs.YtahpiaaffeiadaaGreat
