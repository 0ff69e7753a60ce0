/- Records checked: rdata.has, Check. -/
import Derived.Test.YtahpiaaffeiadaaGreatZrd
namespace Go.Proofs.YtahpiaaffeiadaaGreat
open Go Go.RowKit
section
variable {P : Program} [Tys P] {n : Fm} {ops : Array Oper} {Q : Exit → Act → World → Prop} {fr : Fr} {w : World} {T : TypeId}
/-- A struct stored over a part of a block of one's own. -/
theorem Seg.storeP {U : TypeId} {x y : Operand} {pos : String} {aft : Array Edge} {g : Option (Nat × Bool)} {rest : List Oper} {b o : Nat} {cs : List Value} {a : Array Value}
    (hg : gd ops fr g = some true) (hU : szOf P U = some a.toList.length) (hx : Fr.ev fr x = some (.pointer (some (Addr.add ⟨b, 0, none⟩ o)))) (hy : Fr.ev fr y = some (.agg a)) (hB : Bx w b cs) (hl : o + a.toList.length ≤ cs.length)
    (hv : ∀ c ∈ a.toList, c.oneCell' = true)
    (kk : ∀ w1, Wr b w w1 → Bx w1 b (cs.take o ++ a.toList ++ cs.drop (o + a.toList.length)) → Seg P n ops Q rest fr w1) : Seg P n ops Q (⟨none, .store U x y, T, pos, aft, g⟩ :: rest) fr w := by
  obtain ⟨h1, h2⟩ := hB.setRow (cs.take o ++ a.toList ++ cs.drop (o + a.toList.length))
  obtain ⟨TT, hT⟩ := hB
  rw [addr_lit] at hx
  have hrun : (storeVar U ⟨b, o, none⟩ (.agg a)).run P w = .ok () (w.setRow b (cs.take o ++ a.toList ++ cs.drop (o + a.toList.length)).toArray) := by
    have := run_storeCells_at (P := P) b o TT a.toList 0 cs.toArray w hT (by simp only [List.size_toArray]; omega) hv
    unfold storeVar
    rw [Sem.run_bind, run_size hU]
    simp only [Result.andThen_ok, Value.cells]
    simpa using this
  exact Seg.step0 (w' := w.setRow b (cs.take o ++ a.toList ++ cs.drop (o + a.toList.length)).toArray) hg (.mk fun a' ha d pos aft g => by
    simp [execOp, Instr.storeAt, Instr.sureAddr, ha.ev hx, ha.ev hy, hrun]) (kk _ h2 h1)
end
theorem Yd.slAr {P : Program} [Tys P] {n : Fm} {fr : Fr} {w : World} {T : TypeId} {x : Operand} {p : Addr} {U m e s : Nat} (hU : arOf P U = some (m + 1, e, s)) (hx : Fr.ev fr x = some (.pointer (some p))) :
    Yd P n (.slice U x none none none) T fr w (.slice (some p) (m + 1) (m + 1)) w :=
  .val fun a ha _ _ _ _ => by
    obtain ⟨h2, h3⟩ := und_ar hU
    simp [execOp, Instr.sliceAt, Instr.sliceBounds, run_underlying h2, ha.ev hx, Instr.sureAddr, h3, Addr.add0]
def noA (r : Rec) : Prop := r.adr = (0, 0, [0, 0, 0, 0, 0, 0, 0, 0, 0, 0, 0, 0, 0, 0, 0, 0])
def noS (r : Rec) : Prop := r.pri = 0 ∧ r.wt = 0 ∧ r.pt = 0
def noN (r : Rec) : Prop := r.nums = [0, 0, 0, 0, 0]
def Bare (r : Rec) : Prop := noA r ∧ r.tg = [] ∧ r.ml = [] ∧ noS r ∧ noN r ∧ r.raw = []
def in16 (n : Int) : Prop := 0 ≤ n ∧ n ≤ 65535
def in32 (n : Int) : Prop := 0 ≤ n ∧ n ≤ 4294967295
/-- A record's data are such as may be written. -/
inductive DatOk (r : Rec) : Prop
  | a (f : Int) (hk : kdN r.ty r.cl = 1 ∧ f = 4 ∨ kdN r.ty r.cl = 28 ∧ f = 6) (ha : AdrIs r f) (ht : r.tg = []) (hm : r.ml = []) (hs : noS r) (hn : noN r) (hr : r.raw = [])
  | t (hk : kdN r.ty r.cl = 5 ∨ kdN r.ty r.cl = 12) (ha : noA r) (ht : chkN r.tg = 0) (hm : r.ml = []) (hs : noS r) (hn : noN r) (hr : r.raw = [])
  | s (hk : kdN r.ty r.cl = 33) (ha : noA r) (ht : chkN r.tg = 0) (hm : r.ml = []) (hs : ∀ n ∈ [r.pri, r.wt, r.pt], in16 n) (hn : noN r) (hr : r.raw = [])
  | o (hk : kdN r.ty r.cl = 6) (ha : noA r) (ht : chkN r.tg = 0) (hm : chkN r.ml = 0) (hs : noS r) (hn : ∀ n ∈ r.nums, in32 n) (hr : r.raw = [])
  | r (hk : kdN r.ty r.cl = 0) (ha : noA r) (ht : r.tg = []) (hm : r.ml = []) (hs : noS r) (hn : noN r) (hr : r.raw.length ≤ 65535)
def restA (r : Rec) : Rec := { r with fam := 0, zone := 0, i0 := 0, i1 := 0, i2 := 0, i3 := 0, i4 := 0, i5 := 0, i6 := 0, i7 := 0, i8 := 0, i9 := 0, i10 := 0, i11 := 0, i12 := 0, i13 := 0, i14 := 0, i15 := 0 }
def restT (r : Rec) : Rec := { r with tg := [], vt := .slice none 0 0 }
def restS (r : Rec) : Rec := { r with tg := [], vt := .slice none 0 0, pri := 0, wt := 0, pt := 0 }
def restO (r : Rec) : Rec := { r with tg := [], vt := .slice none 0 0, ml := [], vm := .slice none 0 0, m0 := 0, m1 := 0, m2 := 0, m3 := 0, m4 := 0 }
def restR (r : Rec) : Rec := { r with raw := [] }
theorem wf_zero (r : Rec) (h : ∀ i ∈ r.nums, W64 i) : WfR (restA r) := by
  refine ⟨wf0_64, wf0_64, ?_, h⟩
  simp only [restA, List.mem_cons, List.not_mem_nil, or_false, forall_eq_or_imp, forall_eq]
  exact ⟨wf0_8, wf0_8, wf0_8, wf0_8, wf0_8, wf0_8, wf0_8, wf0_8, wf0_8, wf0_8, wf0_8, wf0_8, wf0_8, wf0_8, wf0_8, wf0_8⟩
theorem wf_nums (r : Rec) (h : WfR r) : WfR (restO r) := by
  refine ⟨h.1, h.2.1, h.2.2.1, ?_⟩
  simp only [restO, Rec.nums, List.mem_cons, List.not_mem_nil, or_false, forall_eq_or_imp, forall_eq]
  exact ⟨wf0_64, wf0_64, wf0_64, wf0_64, wf0_64⟩
theorem nil_at (w : World) : NameAt w (.slice none 0 0) [] := ⟨none, 0, rfl, rfl, (fun _ h => by cases h), fun _ => rfl⟩
theorem chk1 {n : List (List UInt8)} (h : chkL [n] = 0) : chkN n = 0 := by
  rw [chkL_cons] at h
  by_cases h1 : chkN n = 0
  · exact h1
  · rw [if_neg h1] at h; exact h
theorem chk2 {n m : List (List UInt8)} (h : chkL [n, m] = 0) : chkN n = 0 ∧ chkN m = 0 := by
  rw [chkL_cons] at h
  by_cases h1 : chkN n = 0
  · rw [if_pos h1] at h; exact ⟨h1, chk1 h⟩
  · rw [if_neg h1] at h; exact absurd h h1
theorem rnames1 (n : List (List UInt8)) (v v0 : Value) (w : World) (h0 : Sl w 1 v0 1 [v]) (hn : NameAt w v n) (hz : szN n ≤ 4611686018427387904) : Ret Tryz.prog 86 #[v0] w fun v w' => v = .int .i64 (chkL [n]) ∧ Ext w w' :=
  rnames_any [n] [v] v0 w h0 (fun i u m h1 h2 => by
    cases i with
    | zero => cases h1; cases h2; exact hn
    | succ i => cases h2) rfl (show 1 ≤ 100 by decide) (fun m hm => by rw [List.mem_singleton] at hm; rw [hm]; exact hz)
theorem rnames2 (n m : List (List UInt8)) (u v v0 : Value) (w : World) (h0 : Sl w 1 v0 2 [u, v]) (hn : NameAt w u n) (hm : NameAt w v m) (hz : szN n ≤ 4611686018427387904) (hy : szN m ≤ 4611686018427387904) : Ret Tryz.prog 86 #[v0] w fun v w' => v = .int .i64 (chkL [n, m]) ∧ Ext w w' :=
  rnames_any [n, m] [u, v] v0 w h0 (fun i x y h1 h2 => by
    rcases i with _ | _ | i
    · cases h1; cases h2; exact hn
    · cases h1; cases h2; exact hm
    · cases h2) rfl (show 2 ≤ 100 by decide) (fun x hx => by
    simp only [List.mem_cons, List.not_mem_nil, or_false] at hx
    rcases hx with rfl | rfl <;> assumption)
theorem fit_sz {n : List (List UInt8)} (h : Fit n) : szN n ≤ 1002000 := by
  have key : ∀ m : List (List UInt8), (∀ l ∈ m, l.length ≤ 1000) → szN m ≤ 1 + 1001 * m.length := by
    intro m
    induction m with
    | nil => intro _; exact Nat.le_refl _
    | cons a m ih =>
      intro hm
      have h1 := ih fun l hl => hm l (List.mem_cons_of_mem _ hl)
      have h2 := hm a List.mem_cons_self
      unfold szN at h1 ⊢
      rw [List.map_cons, List.sum_cons, List.length_cons]
      omega
  have := key n h.2
  have := h.1
  omega
set_option maxHeartbeats 400000 in
theorem rhas1 (r : Rec) (w : World) (hr : RecAt w r) (hw : WfR r) (hf : FitR r) (hk0 : kdN r.ty r.cl = 1) : Ret Tryz.prog 67 #[.agg r.cells.toArray] w fun v w' => (∃ r' e, v = .tuple #[.agg r'.cells.toArray, .int .i64 e] ∧ RecAt w' r' ∧ WfR r' ∧ r'.raw.length ≤ 70000 ∧ (e = 0 → Bare r' → DatOk r)) ∧ Ext w w' := by
  have hE0 := Ext.refl w
  have hnt := hr.2.1
  have hnm := hr.2.2
  have hN : Keep (RecAt w r) := hr
  obtain ⟨nm, tg, ml, vn, vt, vm, ty, cl, ttl, fam, zone, pri, wt, pt, raw, i0, i1, i2, i3, i4, i5, i6, i7, i8, i9, i10, i11, i12, i13, i14, i15, m0, m1, m2, m3, m4⟩ := r
  obtain ⟨⟨na, nc, hvn, _, _, _⟩, ⟨ta, tc, hvt, _, _, _⟩, ⟨ma, mc, hvm, _, _, _⟩⟩ := hr
  simp only at hvn hvt hvm hnt hnm
  subst hvn
  subst hvt
  subst hvm
  refine Ret.body Tryz.func67 rfl Tryz.ntmps67 rfl ?_
  have hzt : szN tg ≤ 4611686018427387904 := Nat.le_trans (fit_sz hf.2.1) (by decide)
  have hzm : szN ml ≤ 4611686018427387904 := Nat.le_trans (fit_sz hf.2.2.1) (by decide)
  have hk : kdN ty cl = 1 := hk0
  refine Cd.seq (Cd.region (Seg.box rfl rfl rfl (fun w3 b3 hE3 hB3 hb3 => ?_)))
  have hlt3_0 := Nat.le_trans hE0.size hb3
  replace hE0 := Ext.trans hE0 hE3
  refine Seg.alloc rfl rfl rfl (fun w4 b4 hE4 hB4 hb4 => ?_)
  have hlt4_0 := Nat.le_trans hE3.size hb4
  have hlt4_1 := Nat.lt_of_lt_of_le hB3.lt hb4
  have hlt4_2 := Nat.le_trans hE0.size hb4
  replace hE3 := Ext.trans hE3 hE4
  replace hB3 := hB3.ext hE4
  replace hE0 := Ext.trans hE0 hE4
  refine Seg.step rfl rfl (Yd.assign rfl) (Seg.nil (At.then_ (Cd.seq (Cd.region (Seg.step rfl rfl (Yd.loadN rfl rfl rfl hB3.row) (Seg.alloc rfl rfl rfl (fun w11 b11 hE11 hB11 hb11 => ?_)))))))
  have hlt11_0 := Nat.le_trans hE4.size hb11
  have hlt11_1 := Nat.lt_of_lt_of_le hB4.lt hb11
  have hlt11_2 := Nat.le_trans hE3.size hb11
  have hlt11_3 := Nat.lt_of_lt_of_le hB3.lt hb11
  have hlt11_4 := Nat.le_trans hE0.size hb11
  replace hE4 := Ext.trans hE4 hE11
  replace hB4 := hB4.ext hE11
  replace hE3 := Ext.trans hE3 hE11
  replace hB3 := hB3.ext hE11
  replace hE0 := Ext.trans hE0 hE11
  refine Seg.storeN rfl rfl rfl rfl hB11 rfl (by first | assumption | exact List.all_eq_true.1 rfl) (fun w12 hW12 hB12 => ?_)
  clear hB11
  replace hE11 := Ext.wr' hE11 hW12 (by omega)
  replace hE4 := Ext.wr' hE4 hW12 (by omega)
  replace hB4 := hB4.wr hW12 (by omega)
  replace hE3 := Ext.wr' hE3 hW12 (by omega)
  replace hB3 := hB3.wr hW12 (by omega)
  replace hE0 := Ext.wr' hE0 hW12 (by omega)
  refine Seg.nil (At.then_ (Cd.seq (Cd.seq (Cd.region (Seg.step rfl rfl (Yd.fieldAddr rfl rfl) (Seg.step rfl rfl (Yd.load1 rfl rfl (hB3.row _ _ rfl)) (Seg.step rfl rfl (Yd.fieldAddr rfl rfl) ?_)))))))
  refine Seg.step rfl rfl (Yd.load1 rfl rfl (hB3.row _ _ rfl)) ?_
  (refine Seg.call rfl rfl (own_of rfl) rfl (rkind_any ty cl _) ?_; rw [hk]; rintro _ w22 ⟨rfl, hE22⟩)
  replace hW12 := Wr.trans hW12 (Ext.wr hE22 _)
  replace hB12 := hB12.ext hE22
  replace hE11 := Ext.trans hE11 hE22
  replace hE4 := Ext.trans hE4 hE22
  replace hB4 := hB4.ext hE22
  replace hE3 := Ext.trans hE3 hE22
  replace hB3 := hB3.ext hE22
  replace hE0 := Ext.trans hE0 hE22
  refine Seg.nil (At.then_ (Cd.block (Cd.seq (Cd.region (Seg.step rfl rfl (Yd.eql rfl rfl) (Seg.step rfl rfl (Yd.assign rfl) (Seg.nil ?_)))))))
  refine At.then_ (Cd.condT rfl (Cd.seq (Cd.region (Seg.step rfl rfl (Yd.buildT (cs := _ :: _ :: _ :: _ :: _ :: _ :: _ :: _ :: _ :: _ :: _ :: _ :: _ :: _ :: _ :: _ :: _ :: _ :: []) 18 rfl rfl rfl rfl rfl) (Seg.step rfl rfl (Yd.fieldAddr rfl rfl) (Seg.storeP rfl rfl rfl rfl hB12 (Nat.le_of_ble_eq_true rfl) (by first | assumption | exact List.all_eq_true.1 rfl) (fun w37 hW37 hB37 => ?_)))))))
  clear hB12
  replace hW12 := Wr.trans hW12 hW37
  replace hE11 := Ext.wr' hE11 hW37 (by omega)
  replace hE4 := Ext.wr' hE4 hW37 (by omega)
  replace hB4 := hB4.wr hW37 (by omega)
  replace hE3 := Ext.wr' hE3 hW37 (by omega)
  replace hB3 := hB3.wr hW37 (by omega)
  replace hE0 := Ext.wr' hE0 hW37 (by omega)
  refine Seg.nil (At.then_ (Cd.seq (Cd.anyE (by kernel_rfl) (fun w41 hE41 => ?_))))
  replace hW37 := Wr.trans hW37 (Ext.wr hE41 _)
  replace hB37 := hB37.ext hE41
  replace hW12 := Wr.trans hW12 (Ext.wr hE41 _)
  replace hE11 := Ext.trans hE11 hE41
  replace hE4 := Ext.trans hE4 hE41
  replace hB4 := hB4.ext hE41
  replace hE3 := Ext.trans hE3 hE41
  replace hB3 := hB3.ext hE41
  replace hE0 := Ext.trans hE0 hE41
  refine SegA.pure 1 rfl (by kernel_rfl) (by kernel_rfl) (by kernel_rfl) rfl rfl (fun _ => Yd.fieldAddr rfl rfl) (SegA.held 4 (SegG.take 0 rfl (by kernel_rfl) (by kernel_rfl) (by kernel_rfl) (by kernel_rfl) (by kernel_rfl) rfl rfl (fun w' hw' => Yd.loadN rfl rfl rfl (hB37.ext hw').row) (SegG.oneSeg (o := ⟨_, _, _, _, _, _⟩) 2 rfl (by kernel_rfl) (Seg.step rfl rfl (Yd.loadN rfl rfl rfl (show Row _ (Addr.add ⟨b3, 0, none⟩ 4) (⟨nm, tg, ml, .slice na nm.length nc, .slice ta tg.length tc, .slice ma ml.length mc, ty, cl, ttl, fam, zone, pri, wt, pt, raw, i0, i1, i2, i3, i4, i5, i6, i7, i8, i9, i10, i11, i12, i13, i14, i15, m0, m1, m2, m3, m4⟩ : Rec).adrV from hB3.row.part 4 18)) (SegG.back rfl (by first | assumption | exact Ext.refl _) (SegG.oneSeg (o := ⟨_, _, _, _, _, _⟩) 3 rfl (by kernel_rfl) ?_))))))
  (refine Seg.call rfl rfl (own_of rfl) rfl (raddr_any (⟨nm, tg, ml, .slice na nm.length nc, .slice ta tg.length tc, .slice ma ml.length mc, ty, cl, ttl, fam, zone, pri, wt, pt, raw, i0, i1, i2, i3, i4, i5, i6, i7, i8, i9, i10, i11, i12, i13, i14, i15, m0, m1, m2, m3, m4⟩ : Rec) 4 _ hw) ?_; rintro _ w49 ⟨⟨e, rfl, he⟩, hE49⟩)
  replace hE41 := Ext.trans hE41 hE49
  replace hW37 := Wr.trans hW37 (Ext.wr hE49 _)
  replace hB37 := hB37.ext hE49
  replace hW12 := Wr.trans hW12 (Ext.wr hE49 _)
  replace hE11 := Ext.trans hE11 hE49
  replace hE4 := Ext.trans hE4 hE49
  replace hB4 := hB4.ext hE49
  replace hE3 := Ext.trans hE3 hE49
  replace hB3 := hB3.ext hE49
  replace hE0 := Ext.trans hE0 hE49
  refine SegG.back rfl (by first | assumption | exact Ext.refl _) (SegG.oneSeg (o := ⟨_, _, _, _, _, _⟩) 4 rfl (by kernel_rfl) (Seg.storeN rfl rfl rfl rfl hB4 rfl (by first | assumption | exact List.all_eq_true.1 rfl) (fun w52 hW52 hB52 => ?_)))
  clear hB4
  replace hB37 := hB37.wr hW52 (by omega)
  replace hE4 := Ext.wr' hE4 hW52 (by omega)
  replace hE3 := Ext.wr' hE3 hW52 (by omega)
  replace hB3 := hB3.wr hW52 (by omega)
  replace hE0 := Ext.wr' hE0 hW52 (by omega)
  refine SegG.end_ rfl (SegA.pure 5 rfl (by kernel_rfl) (by kernel_rfl) (by kernel_rfl) rfl rfl (fun _ => Yd.assign rfl) (SegA.done (by kernel_rfl) (At.then_ (Cd.ret (At.blk_ret (At.then_ret ?_))))))
  exact At.ret Tryz.results67 (.cell rfl (run_loadVarN rfl rfl (show Bx _ b4 (restA (⟨nm, tg, ml, .slice na nm.length nc, .slice ta tg.length tc, .slice ma ml.length mc, ty, cl, ttl, fam, zone, pri, wt, pt, raw, i0, i1, i2, i3, i4, i5, i6, i7, i8, i9, i10, i11, i12, i13, i14, i15, m0, m1, m2, m3, m4⟩ : Rec)).cells by assumption).row) (.tmp rfl .nil)) ⟨⟨restA (⟨nm, tg, ml, .slice na nm.length nc, .slice ta tg.length tc, .slice ma ml.length mc, ty, cl, ttl, fam, zone, pri, wt, pt, raw, i0, i1, i2, i3, i4, i5, i6, i7, i8, i9, i10, i11, i12, i13, i14, i15, m0, m1, m2, m3, m4⟩ : Rec), e, rfl, RecAt.ext hN hE0, wf_zero _ hw.2.2.2, hf.2.2.2, fun h hb => .a 4 (.inl ⟨hk, rfl⟩) (he h) hb.2.1 hb.2.2.1 hb.2.2.2.1 hb.2.2.2.2.1 hb.2.2.2.2.2⟩, hE0⟩
set_option maxHeartbeats 400000 in
theorem rhas28 (r : Rec) (w : World) (hr : RecAt w r) (hw : WfR r) (hf : FitR r) (hk0 : kdN r.ty r.cl = 28) : Ret Tryz.prog 67 #[.agg r.cells.toArray] w fun v w' => (∃ r' e, v = .tuple #[.agg r'.cells.toArray, .int .i64 e] ∧ RecAt w' r' ∧ WfR r' ∧ r'.raw.length ≤ 70000 ∧ (e = 0 → Bare r' → DatOk r)) ∧ Ext w w' := by
  have hE0 := Ext.refl w
  have hnt := hr.2.1
  have hnm := hr.2.2
  have hN : Keep (RecAt w r) := hr
  obtain ⟨nm, tg, ml, vn, vt, vm, ty, cl, ttl, fam, zone, pri, wt, pt, raw, i0, i1, i2, i3, i4, i5, i6, i7, i8, i9, i10, i11, i12, i13, i14, i15, m0, m1, m2, m3, m4⟩ := r
  obtain ⟨⟨na, nc, hvn, _, _, _⟩, ⟨ta, tc, hvt, _, _, _⟩, ⟨ma, mc, hvm, _, _, _⟩⟩ := hr
  simp only at hvn hvt hvm hnt hnm
  subst hvn
  subst hvt
  subst hvm
  refine Ret.body Tryz.func67 rfl Tryz.ntmps67 rfl ?_
  have hzt : szN tg ≤ 4611686018427387904 := Nat.le_trans (fit_sz hf.2.1) (by decide)
  have hzm : szN ml ≤ 4611686018427387904 := Nat.le_trans (fit_sz hf.2.2.1) (by decide)
  have hk : kdN ty cl = 28 := hk0
  refine Cd.seq (Cd.region (Seg.box rfl rfl rfl (fun w3 b3 hE3 hB3 hb3 => ?_)))
  have hlt3_0 := Nat.le_trans hE0.size hb3
  replace hE0 := Ext.trans hE0 hE3
  refine Seg.alloc rfl rfl rfl (fun w4 b4 hE4 hB4 hb4 => ?_)
  have hlt4_0 := Nat.le_trans hE3.size hb4
  have hlt4_1 := Nat.lt_of_lt_of_le hB3.lt hb4
  have hlt4_2 := Nat.le_trans hE0.size hb4
  replace hE3 := Ext.trans hE3 hE4
  replace hB3 := hB3.ext hE4
  replace hE0 := Ext.trans hE0 hE4
  refine Seg.step rfl rfl (Yd.assign rfl) (Seg.nil (At.then_ (Cd.seq (Cd.region (Seg.step rfl rfl (Yd.loadN rfl rfl rfl hB3.row) (Seg.alloc rfl rfl rfl (fun w11 b11 hE11 hB11 hb11 => ?_)))))))
  have hlt11_0 := Nat.le_trans hE4.size hb11
  have hlt11_1 := Nat.lt_of_lt_of_le hB4.lt hb11
  have hlt11_2 := Nat.le_trans hE3.size hb11
  have hlt11_3 := Nat.lt_of_lt_of_le hB3.lt hb11
  have hlt11_4 := Nat.le_trans hE0.size hb11
  replace hE4 := Ext.trans hE4 hE11
  replace hB4 := hB4.ext hE11
  replace hE3 := Ext.trans hE3 hE11
  replace hB3 := hB3.ext hE11
  replace hE0 := Ext.trans hE0 hE11
  refine Seg.storeN rfl rfl rfl rfl hB11 rfl (by first | assumption | exact List.all_eq_true.1 rfl) (fun w12 hW12 hB12 => ?_)
  clear hB11
  replace hE11 := Ext.wr' hE11 hW12 (by omega)
  replace hE4 := Ext.wr' hE4 hW12 (by omega)
  replace hB4 := hB4.wr hW12 (by omega)
  replace hE3 := Ext.wr' hE3 hW12 (by omega)
  replace hB3 := hB3.wr hW12 (by omega)
  replace hE0 := Ext.wr' hE0 hW12 (by omega)
  refine Seg.nil (At.then_ (Cd.seq (Cd.seq (Cd.region (Seg.step rfl rfl (Yd.fieldAddr rfl rfl) (Seg.step rfl rfl (Yd.load1 rfl rfl (hB3.row _ _ rfl)) (Seg.step rfl rfl (Yd.fieldAddr rfl rfl) ?_)))))))
  refine Seg.step rfl rfl (Yd.load1 rfl rfl (hB3.row _ _ rfl)) ?_
  (refine Seg.call rfl rfl (own_of rfl) rfl (rkind_any ty cl _) ?_; rw [hk]; rintro _ w22 ⟨rfl, hE22⟩)
  replace hW12 := Wr.trans hW12 (Ext.wr hE22 _)
  replace hB12 := hB12.ext hE22
  replace hE11 := Ext.trans hE11 hE22
  replace hE4 := Ext.trans hE4 hE22
  replace hB4 := hB4.ext hE22
  replace hE3 := Ext.trans hE3 hE22
  replace hB3 := hB3.ext hE22
  replace hE0 := Ext.trans hE0 hE22
  refine Seg.nil (At.then_ (Cd.block (Cd.seq (Cd.region (Seg.step rfl rfl (Yd.eql rfl rfl) (Seg.step rfl rfl (Yd.assign rfl) (Seg.nil ?_)))))))
  refine At.then_ (Cd.condF rfl (Cd.seq (Cd.region (Seg.step rfl rfl (Yd.eql rfl rfl) (Seg.step rfl rfl (Yd.assign rfl) (Seg.nil (At.then_ ?_)))))))
  refine Cd.condT rfl (Cd.seq (Cd.region (Seg.step rfl rfl (Yd.buildT (cs := _ :: _ :: _ :: _ :: _ :: _ :: _ :: _ :: _ :: _ :: _ :: _ :: _ :: _ :: _ :: _ :: _ :: _ :: []) 18 rfl rfl rfl rfl rfl) (Seg.step rfl rfl (Yd.fieldAddr rfl rfl) (Seg.storeP rfl rfl rfl rfl hB12 (Nat.le_of_ble_eq_true rfl) (by first | assumption | exact List.all_eq_true.1 rfl) (fun w44 hW44 hB44 => ?_))))))
  clear hB12
  replace hW12 := Wr.trans hW12 hW44
  replace hE11 := Ext.wr' hE11 hW44 (by omega)
  replace hE4 := Ext.wr' hE4 hW44 (by omega)
  replace hB4 := hB4.wr hW44 (by omega)
  replace hE3 := Ext.wr' hE3 hW44 (by omega)
  replace hB3 := hB3.wr hW44 (by omega)
  replace hE0 := Ext.wr' hE0 hW44 (by omega)
  refine Seg.nil (At.then_ (Cd.seq (Cd.anyE (by kernel_rfl) (fun w48 hE48 => ?_))))
  replace hW44 := Wr.trans hW44 (Ext.wr hE48 _)
  replace hB44 := hB44.ext hE48
  replace hW12 := Wr.trans hW12 (Ext.wr hE48 _)
  replace hE11 := Ext.trans hE11 hE48
  replace hE4 := Ext.trans hE4 hE48
  replace hB4 := hB4.ext hE48
  replace hE3 := Ext.trans hE3 hE48
  replace hB3 := hB3.ext hE48
  replace hE0 := Ext.trans hE0 hE48
  refine SegA.pure 1 rfl (by kernel_rfl) (by kernel_rfl) (by kernel_rfl) rfl rfl (fun _ => Yd.fieldAddr rfl rfl) (SegA.held 4 (SegG.take 0 rfl (by kernel_rfl) (by kernel_rfl) (by kernel_rfl) (by kernel_rfl) (by kernel_rfl) rfl rfl (fun w' hw' => Yd.loadN rfl rfl rfl (hB44.ext hw').row) (SegG.oneSeg (o := ⟨_, _, _, _, _, _⟩) 2 rfl (by kernel_rfl) (Seg.step rfl rfl (Yd.loadN rfl rfl rfl (show Row _ (Addr.add ⟨b3, 0, none⟩ 4) (⟨nm, tg, ml, .slice na nm.length nc, .slice ta tg.length tc, .slice ma ml.length mc, ty, cl, ttl, fam, zone, pri, wt, pt, raw, i0, i1, i2, i3, i4, i5, i6, i7, i8, i9, i10, i11, i12, i13, i14, i15, m0, m1, m2, m3, m4⟩ : Rec).adrV from hB3.row.part 4 18)) (SegG.back rfl (by first | assumption | exact Ext.refl _) (SegG.oneSeg (o := ⟨_, _, _, _, _, _⟩) 3 rfl (by kernel_rfl) ?_))))))
  (refine Seg.call rfl rfl (own_of rfl) rfl (raddr_any (⟨nm, tg, ml, .slice na nm.length nc, .slice ta tg.length tc, .slice ma ml.length mc, ty, cl, ttl, fam, zone, pri, wt, pt, raw, i0, i1, i2, i3, i4, i5, i6, i7, i8, i9, i10, i11, i12, i13, i14, i15, m0, m1, m2, m3, m4⟩ : Rec) 6 _ hw) ?_; rintro _ w56 ⟨⟨e, rfl, he⟩, hE56⟩)
  replace hE48 := Ext.trans hE48 hE56
  replace hW44 := Wr.trans hW44 (Ext.wr hE56 _)
  replace hB44 := hB44.ext hE56
  replace hW12 := Wr.trans hW12 (Ext.wr hE56 _)
  replace hE11 := Ext.trans hE11 hE56
  replace hE4 := Ext.trans hE4 hE56
  replace hB4 := hB4.ext hE56
  replace hE3 := Ext.trans hE3 hE56
  replace hB3 := hB3.ext hE56
  replace hE0 := Ext.trans hE0 hE56
  refine SegG.back rfl (by first | assumption | exact Ext.refl _) (SegG.oneSeg (o := ⟨_, _, _, _, _, _⟩) 4 rfl (by kernel_rfl) (Seg.storeN rfl rfl rfl rfl hB4 rfl (by first | assumption | exact List.all_eq_true.1 rfl) (fun w59 hW59 hB59 => ?_)))
  clear hB4
  replace hB44 := hB44.wr hW59 (by omega)
  replace hE4 := Ext.wr' hE4 hW59 (by omega)
  replace hE3 := Ext.wr' hE3 hW59 (by omega)
  replace hB3 := hB3.wr hW59 (by omega)
  replace hE0 := Ext.wr' hE0 hW59 (by omega)
  refine SegG.end_ rfl (SegA.pure 5 rfl (by kernel_rfl) (by kernel_rfl) (by kernel_rfl) rfl rfl (fun _ => Yd.assign rfl) (SegA.done (by kernel_rfl) (At.then_ (Cd.ret (At.blk_ret (At.then_ret ?_))))))
  exact At.ret Tryz.results67 (.cell rfl (run_loadVarN rfl rfl (show Bx _ b4 (restA (⟨nm, tg, ml, .slice na nm.length nc, .slice ta tg.length tc, .slice ma ml.length mc, ty, cl, ttl, fam, zone, pri, wt, pt, raw, i0, i1, i2, i3, i4, i5, i6, i7, i8, i9, i10, i11, i12, i13, i14, i15, m0, m1, m2, m3, m4⟩ : Rec)).cells by assumption).row) (.tmp rfl .nil)) ⟨⟨restA (⟨nm, tg, ml, .slice na nm.length nc, .slice ta tg.length tc, .slice ma ml.length mc, ty, cl, ttl, fam, zone, pri, wt, pt, raw, i0, i1, i2, i3, i4, i5, i6, i7, i8, i9, i10, i11, i12, i13, i14, i15, m0, m1, m2, m3, m4⟩ : Rec), e, rfl, RecAt.ext hN hE0, wf_zero _ hw.2.2.2, hf.2.2.2, fun h hb => .a 6 (.inr ⟨hk, rfl⟩) (he h) hb.2.1 hb.2.2.1 hb.2.2.2.1 hb.2.2.2.2.1 hb.2.2.2.2.2⟩, hE0⟩
set_option maxHeartbeats 400000 in
theorem rhas5 (r : Rec) (w : World) (hr : RecAt w r) (hw : WfR r) (hf : FitR r) (hk0 : kdN r.ty r.cl = 5) : Ret Tryz.prog 67 #[.agg r.cells.toArray] w fun v w' => (∃ r' e, v = .tuple #[.agg r'.cells.toArray, .int .i64 e] ∧ RecAt w' r' ∧ WfR r' ∧ r'.raw.length ≤ 70000 ∧ (e = 0 → Bare r' → DatOk r)) ∧ Ext w w' := by
  have hE0 := Ext.refl w
  have hnt := hr.2.1
  have hnm := hr.2.2
  have hN : Keep (RecAt w r) := hr
  obtain ⟨nm, tg, ml, vn, vt, vm, ty, cl, ttl, fam, zone, pri, wt, pt, raw, i0, i1, i2, i3, i4, i5, i6, i7, i8, i9, i10, i11, i12, i13, i14, i15, m0, m1, m2, m3, m4⟩ := r
  obtain ⟨⟨na, nc, hvn, _, _, _⟩, ⟨ta, tc, hvt, _, _, _⟩, ⟨ma, mc, hvm, _, _, _⟩⟩ := hr
  simp only at hvn hvt hvm hnt hnm
  subst hvn
  subst hvt
  subst hvm
  refine Ret.body Tryz.func67 rfl Tryz.ntmps67 rfl ?_
  have hzt : szN tg ≤ 4611686018427387904 := Nat.le_trans (fit_sz hf.2.1) (by decide)
  have hzm : szN ml ≤ 4611686018427387904 := Nat.le_trans (fit_sz hf.2.2.1) (by decide)
  have hk : kdN ty cl = 5 := hk0
  refine Cd.seq (Cd.region (Seg.box rfl rfl rfl (fun w3 b3 hE3 hB3 hb3 => ?_)))
  have hlt3_0 := Nat.le_trans hE0.size hb3
  replace hE0 := Ext.trans hE0 hE3
  refine Seg.alloc rfl rfl rfl (fun w4 b4 hE4 hB4 hb4 => ?_)
  have hlt4_0 := Nat.le_trans hE3.size hb4
  have hlt4_1 := Nat.lt_of_lt_of_le hB3.lt hb4
  have hlt4_2 := Nat.le_trans hE0.size hb4
  replace hE3 := Ext.trans hE3 hE4
  replace hB3 := hB3.ext hE4
  replace hE0 := Ext.trans hE0 hE4
  refine Seg.step rfl rfl (Yd.assign rfl) (Seg.nil (At.then_ (Cd.seq (Cd.region (Seg.step rfl rfl (Yd.loadN rfl rfl rfl hB3.row) (Seg.alloc rfl rfl rfl (fun w11 b11 hE11 hB11 hb11 => ?_)))))))
  have hlt11_0 := Nat.le_trans hE4.size hb11
  have hlt11_1 := Nat.lt_of_lt_of_le hB4.lt hb11
  have hlt11_2 := Nat.le_trans hE3.size hb11
  have hlt11_3 := Nat.lt_of_lt_of_le hB3.lt hb11
  have hlt11_4 := Nat.le_trans hE0.size hb11
  replace hE4 := Ext.trans hE4 hE11
  replace hB4 := hB4.ext hE11
  replace hE3 := Ext.trans hE3 hE11
  replace hB3 := hB3.ext hE11
  replace hE0 := Ext.trans hE0 hE11
  refine Seg.storeN rfl rfl rfl rfl hB11 rfl (by first | assumption | exact List.all_eq_true.1 rfl) (fun w12 hW12 hB12 => ?_)
  clear hB11
  replace hE11 := Ext.wr' hE11 hW12 (by omega)
  replace hE4 := Ext.wr' hE4 hW12 (by omega)
  replace hB4 := hB4.wr hW12 (by omega)
  replace hE3 := Ext.wr' hE3 hW12 (by omega)
  replace hB3 := hB3.wr hW12 (by omega)
  replace hE0 := Ext.wr' hE0 hW12 (by omega)
  refine Seg.nil (At.then_ (Cd.seq (Cd.seq (Cd.region (Seg.step rfl rfl (Yd.fieldAddr rfl rfl) (Seg.step rfl rfl (Yd.load1 rfl rfl (hB3.row _ _ rfl)) (Seg.step rfl rfl (Yd.fieldAddr rfl rfl) ?_)))))))
  refine Seg.step rfl rfl (Yd.load1 rfl rfl (hB3.row _ _ rfl)) ?_
  (refine Seg.call rfl rfl (own_of rfl) rfl (rkind_any ty cl _) ?_; rw [hk]; rintro _ w22 ⟨rfl, hE22⟩)
  replace hW12 := Wr.trans hW12 (Ext.wr hE22 _)
  replace hB12 := hB12.ext hE22
  replace hE11 := Ext.trans hE11 hE22
  replace hE4 := Ext.trans hE4 hE22
  replace hB4 := hB4.ext hE22
  replace hE3 := Ext.trans hE3 hE22
  replace hB3 := hB3.ext hE22
  replace hE0 := Ext.trans hE0 hE22
  refine Seg.nil (At.then_ (Cd.block (Cd.seq (Cd.region (Seg.step rfl rfl (Yd.eql rfl rfl) (Seg.step rfl rfl (Yd.assign rfl) (Seg.nil ?_)))))))
  refine At.then_ (Cd.condF rfl (Cd.seq (Cd.region (Seg.step rfl rfl (Yd.eql rfl rfl) (Seg.step rfl rfl (Yd.assign rfl) (Seg.nil (At.then_ ?_)))))))
  refine Cd.condF rfl (Cd.seq (Cd.seq (Cd.region (Seg.step rfl rfl (Yd.eql rfl rfl) (Seg.step rfl rfl (Yd.assign rfl) (Seg.nil (At.then_ ?_)))))))
  refine Cd.condT rfl (Cd.skip (At.then_ (Cd.condT rfl (Cd.seq (Cd.region (Seg.step rfl rfl (Yd.fieldAddr rfl rfl) ?_))))))
  refine Seg.store1 rfl rfl rfl rfl rfl hB12 (by first | omega | (simp; done) | exact Nat.le_of_ble_eq_true rfl) (fun w54 hW54 hB54 => ?_)
  clear hB12
  replace hW12 := Wr.trans hW12 hW54
  replace hE11 := Ext.wr' hE11 hW54 (by omega)
  replace hE4 := Ext.wr' hE4 hW54 (by omega)
  replace hB4 := hB4.wr hW54 (by omega)
  replace hE3 := Ext.wr' hE3 hW54 (by omega)
  replace hB3 := hB3.wr hW54 (by omega)
  replace hE0 := Ext.wr' hE0 hW54 (by omega)
  refine Seg.nil (At.then_ (Cd.seq (Cd.anyE (by kernel_rfl) (fun w58 hE58 => ?_))))
  replace hW54 := Wr.trans hW54 (Ext.wr hE58 _)
  replace hB54 := hB54.ext hE58
  replace hW12 := Wr.trans hW12 (Ext.wr hE58 _)
  replace hE11 := Ext.trans hE11 hE58
  replace hE4 := Ext.trans hE4 hE58
  replace hB4 := hB4.ext hE58
  replace hE3 := Ext.trans hE3 hE58
  replace hB3 := hB3.ext hE58
  replace hE0 := Ext.trans hE0 hE58
  refine SegA.pure 1 rfl (by kernel_rfl) (by kernel_rfl) (by kernel_rfl) rfl rfl (fun _ => Yd.fieldAddr rfl rfl) (SegA.held 5 (SegG.take 0 rfl (by kernel_rfl) (by kernel_rfl) (by kernel_rfl) (by kernel_rfl) (by kernel_rfl) rfl rfl (fun w' hw' => Yd.loadN rfl rfl rfl (hB54.ext hw').row) (SegG.oneSeg (o := ⟨_, _, _, _, _, _⟩) 2 rfl (by kernel_rfl) (Seg.step rfl rfl (Yd.load1 rfl rfl (hB3.row _ _ rfl)) (SegG.back rfl (by first | assumption | exact Ext.refl _) (SegG.oneSeg (o := ⟨_, _, _, _, _, _⟩) 3 rfl (by kernel_rfl) (Seg.buildSliceV rfl rfl rfl rfl rfl rfl rfl rfl rfl rfl (fun w66 b66 hE66 hB66 hb66 hO66 => ?_))))))))
  have hlt66_0 := Nat.le_trans hE58.size hb66
  have hlt66_1 := Nat.lt_of_lt_of_le hB54.lt hb66
  have hlt66_2 := Nat.le_trans hE11.size hb66
  have hlt66_3 := Nat.le_trans hE4.size hb66
  have hlt66_4 := Nat.lt_of_lt_of_le hB4.lt hb66
  have hlt66_5 := Nat.le_trans hE3.size hb66
  have hlt66_6 := Nat.lt_of_lt_of_le hB3.lt hb66
  have hlt66_7 := Nat.le_trans hE0.size hb66
  replace hE58 := Ext.trans hE58 hE66
  replace hW54 := Wr.trans hW54 (Ext.wr hE66 _)
  replace hB54 := hB54.ext hE66
  replace hW12 := Wr.trans hW12 (Ext.wr hE66 _)
  replace hE11 := Ext.trans hE11 hE66
  replace hE4 := Ext.trans hE4 hE66
  replace hB4 := hB4.ext hE66
  replace hE3 := Ext.trans hE3 hE66
  replace hB3 := hB3.ext hE66
  replace hE0 := Ext.trans hE0 hE66
  refine SegG.back rfl (by first | assumption | exact Ext.refl _) (SegG.oneSeg (o := ⟨_, _, _, _, _, _⟩) 4 rfl (by kernel_rfl) ?_)
  (refine Seg.call rfl rfl (own_of rfl) rfl (rnames1 tg (.slice ta tg.length tc) _ _ (own_sl hO66) (Sl.ext hnt (by assumption)) hzt) ?_; rintro _ w69 ⟨rfl, hE69⟩)
  replace hE66 := Ext.trans hE66 hE69
  replace hB66 := hB66.ext hE69
  replace hO66 := own_ext hO66 hE69
  replace hE58 := Ext.trans hE58 hE69
  replace hW54 := Wr.trans hW54 (Ext.wr hE69 _)
  replace hB54 := hB54.ext hE69
  replace hW12 := Wr.trans hW12 (Ext.wr hE69 _)
  replace hE11 := Ext.trans hE11 hE69
  replace hE4 := Ext.trans hE4 hE69
  replace hB4 := hB4.ext hE69
  replace hE3 := Ext.trans hE3 hE69
  replace hB3 := hB3.ext hE69
  replace hE0 := Ext.trans hE0 hE69
  refine SegG.back rfl (by first | assumption | exact Ext.refl _) (SegG.oneSeg (o := ⟨_, _, _, _, _, _⟩) 5 rfl (by kernel_rfl) (Seg.storeN rfl rfl rfl rfl hB4 rfl (by first | assumption | exact List.all_eq_true.1 rfl) (fun w72 hW72 hB72 => ?_)))
  clear hB4
  replace hB66 := hB66.wr hW72 (by omega)
  replace hO66 := own_wr hO66 hW72 (by simp [Value.ownBlock]; omega)
  replace hB54 := hB54.wr hW72 (by omega)
  replace hE4 := Ext.wr' hE4 hW72 (by omega)
  replace hE3 := Ext.wr' hE3 hW72 (by omega)
  replace hB3 := hB3.wr hW72 (by omega)
  replace hE0 := Ext.wr' hE0 hW72 (by omega)
  refine SegG.end_ rfl (SegA.pure 6 rfl (by kernel_rfl) (by kernel_rfl) (by kernel_rfl) rfl rfl (fun _ => Yd.assign rfl) (SegA.done (by kernel_rfl) (At.then_ (Cd.ret (At.blk_ret (At.then_ret ?_))))))
  exact At.ret Tryz.results67 (.cell rfl (run_loadVarN rfl rfl (show Bx _ b4 (restT (⟨nm, tg, ml, .slice na nm.length nc, .slice ta tg.length tc, .slice ma ml.length mc, ty, cl, ttl, fam, zone, pri, wt, pt, raw, i0, i1, i2, i3, i4, i5, i6, i7, i8, i9, i10, i11, i12, i13, i14, i15, m0, m1, m2, m3, m4⟩ : Rec)).cells by assumption).row) (.tmp rfl .nil)) ⟨⟨restT (⟨nm, tg, ml, .slice na nm.length nc, .slice ta tg.length tc, .slice ma ml.length mc, ty, cl, ttl, fam, zone, pri, wt, pt, raw, i0, i1, i2, i3, i4, i5, i6, i7, i8, i9, i10, i11, i12, i13, i14, i15, m0, m1, m2, m3, m4⟩ : Rec), _, rfl, ⟨(RecAt.ext hN hE0).1, nil_at _, (RecAt.ext hN hE0).2.2⟩, hw, hf.2.2.2, fun h hb => .t (.inl hk) hb.1 (chk1 h) hb.2.2.1 hb.2.2.2.1 hb.2.2.2.2.1 hb.2.2.2.2.2⟩, hE0⟩
set_option maxHeartbeats 400000 in
theorem rhas12 (r : Rec) (w : World) (hr : RecAt w r) (hw : WfR r) (hf : FitR r) (hk0 : kdN r.ty r.cl = 12) : Ret Tryz.prog 67 #[.agg r.cells.toArray] w fun v w' => (∃ r' e, v = .tuple #[.agg r'.cells.toArray, .int .i64 e] ∧ RecAt w' r' ∧ WfR r' ∧ r'.raw.length ≤ 70000 ∧ (e = 0 → Bare r' → DatOk r)) ∧ Ext w w' := by
  have hE0 := Ext.refl w
  have hnt := hr.2.1
  have hnm := hr.2.2
  have hN : Keep (RecAt w r) := hr
  obtain ⟨nm, tg, ml, vn, vt, vm, ty, cl, ttl, fam, zone, pri, wt, pt, raw, i0, i1, i2, i3, i4, i5, i6, i7, i8, i9, i10, i11, i12, i13, i14, i15, m0, m1, m2, m3, m4⟩ := r
  obtain ⟨⟨na, nc, hvn, _, _, _⟩, ⟨ta, tc, hvt, _, _, _⟩, ⟨ma, mc, hvm, _, _, _⟩⟩ := hr
  simp only at hvn hvt hvm hnt hnm
  subst hvn
  subst hvt
  subst hvm
  refine Ret.body Tryz.func67 rfl Tryz.ntmps67 rfl ?_
  have hzt : szN tg ≤ 4611686018427387904 := Nat.le_trans (fit_sz hf.2.1) (by decide)
  have hzm : szN ml ≤ 4611686018427387904 := Nat.le_trans (fit_sz hf.2.2.1) (by decide)
  have hk : kdN ty cl = 12 := hk0
  refine Cd.seq (Cd.region (Seg.box rfl rfl rfl (fun w3 b3 hE3 hB3 hb3 => ?_)))
  have hlt3_0 := Nat.le_trans hE0.size hb3
  replace hE0 := Ext.trans hE0 hE3
  refine Seg.alloc rfl rfl rfl (fun w4 b4 hE4 hB4 hb4 => ?_)
  have hlt4_0 := Nat.le_trans hE3.size hb4
  have hlt4_1 := Nat.lt_of_lt_of_le hB3.lt hb4
  have hlt4_2 := Nat.le_trans hE0.size hb4
  replace hE3 := Ext.trans hE3 hE4
  replace hB3 := hB3.ext hE4
  replace hE0 := Ext.trans hE0 hE4
  refine Seg.step rfl rfl (Yd.assign rfl) (Seg.nil (At.then_ (Cd.seq (Cd.region (Seg.step rfl rfl (Yd.loadN rfl rfl rfl hB3.row) (Seg.alloc rfl rfl rfl (fun w11 b11 hE11 hB11 hb11 => ?_)))))))
  have hlt11_0 := Nat.le_trans hE4.size hb11
  have hlt11_1 := Nat.lt_of_lt_of_le hB4.lt hb11
  have hlt11_2 := Nat.le_trans hE3.size hb11
  have hlt11_3 := Nat.lt_of_lt_of_le hB3.lt hb11
  have hlt11_4 := Nat.le_trans hE0.size hb11
  replace hE4 := Ext.trans hE4 hE11
  replace hB4 := hB4.ext hE11
  replace hE3 := Ext.trans hE3 hE11
  replace hB3 := hB3.ext hE11
  replace hE0 := Ext.trans hE0 hE11
  refine Seg.storeN rfl rfl rfl rfl hB11 rfl (by first | assumption | exact List.all_eq_true.1 rfl) (fun w12 hW12 hB12 => ?_)
  clear hB11
  replace hE11 := Ext.wr' hE11 hW12 (by omega)
  replace hE4 := Ext.wr' hE4 hW12 (by omega)
  replace hB4 := hB4.wr hW12 (by omega)
  replace hE3 := Ext.wr' hE3 hW12 (by omega)
  replace hB3 := hB3.wr hW12 (by omega)
  replace hE0 := Ext.wr' hE0 hW12 (by omega)
  refine Seg.nil (At.then_ (Cd.seq (Cd.seq (Cd.region (Seg.step rfl rfl (Yd.fieldAddr rfl rfl) (Seg.step rfl rfl (Yd.load1 rfl rfl (hB3.row _ _ rfl)) (Seg.step rfl rfl (Yd.fieldAddr rfl rfl) ?_)))))))
  refine Seg.step rfl rfl (Yd.load1 rfl rfl (hB3.row _ _ rfl)) ?_
  (refine Seg.call rfl rfl (own_of rfl) rfl (rkind_any ty cl _) ?_; rw [hk]; rintro _ w22 ⟨rfl, hE22⟩)
  replace hW12 := Wr.trans hW12 (Ext.wr hE22 _)
  replace hB12 := hB12.ext hE22
  replace hE11 := Ext.trans hE11 hE22
  replace hE4 := Ext.trans hE4 hE22
  replace hB4 := hB4.ext hE22
  replace hE3 := Ext.trans hE3 hE22
  replace hB3 := hB3.ext hE22
  replace hE0 := Ext.trans hE0 hE22
  refine Seg.nil (At.then_ (Cd.block (Cd.seq (Cd.region (Seg.step rfl rfl (Yd.eql rfl rfl) (Seg.step rfl rfl (Yd.assign rfl) (Seg.nil ?_)))))))
  refine At.then_ (Cd.condF rfl (Cd.seq (Cd.region (Seg.step rfl rfl (Yd.eql rfl rfl) (Seg.step rfl rfl (Yd.assign rfl) (Seg.nil (At.then_ ?_)))))))
  refine Cd.condF rfl (Cd.seq (Cd.seq (Cd.region (Seg.step rfl rfl (Yd.eql rfl rfl) (Seg.step rfl rfl (Yd.assign rfl) (Seg.nil (At.then_ ?_)))))))
  refine Cd.condF rfl (Cd.region (Seg.step rfl rfl (Yd.eql rfl rfl) (Seg.step rfl rfl (Yd.assign rfl) (Seg.nil (At.then_ (Cd.condT rfl (Cd.seq ?_)))))))
  refine Cd.region (Seg.step rfl rfl (Yd.fieldAddr rfl rfl) ?_)
  refine Seg.store1 rfl rfl rfl rfl rfl hB12 (by first | omega | (simp; done) | exact Nat.le_of_ble_eq_true rfl) (fun w57 hW57 hB57 => ?_)
  clear hB12
  replace hW12 := Wr.trans hW12 hW57
  replace hE11 := Ext.wr' hE11 hW57 (by omega)
  replace hE4 := Ext.wr' hE4 hW57 (by omega)
  replace hB4 := hB4.wr hW57 (by omega)
  replace hE3 := Ext.wr' hE3 hW57 (by omega)
  replace hB3 := hB3.wr hW57 (by omega)
  replace hE0 := Ext.wr' hE0 hW57 (by omega)
  refine Seg.nil (At.then_ (Cd.seq (Cd.anyE (by kernel_rfl) (fun w61 hE61 => ?_))))
  replace hW57 := Wr.trans hW57 (Ext.wr hE61 _)
  replace hB57 := hB57.ext hE61
  replace hW12 := Wr.trans hW12 (Ext.wr hE61 _)
  replace hE11 := Ext.trans hE11 hE61
  replace hE4 := Ext.trans hE4 hE61
  replace hB4 := hB4.ext hE61
  replace hE3 := Ext.trans hE3 hE61
  replace hB3 := hB3.ext hE61
  replace hE0 := Ext.trans hE0 hE61
  refine SegA.pure 1 rfl (by kernel_rfl) (by kernel_rfl) (by kernel_rfl) rfl rfl (fun _ => Yd.fieldAddr rfl rfl) (SegA.held 5 (SegG.take 0 rfl (by kernel_rfl) (by kernel_rfl) (by kernel_rfl) (by kernel_rfl) (by kernel_rfl) rfl rfl (fun w' hw' => Yd.loadN rfl rfl rfl (hB57.ext hw').row) (SegG.oneSeg (o := ⟨_, _, _, _, _, _⟩) 2 rfl (by kernel_rfl) (Seg.step rfl rfl (Yd.load1 rfl rfl (hB3.row _ _ rfl)) (SegG.back rfl (by first | assumption | exact Ext.refl _) (SegG.oneSeg (o := ⟨_, _, _, _, _, _⟩) 3 rfl (by kernel_rfl) (Seg.buildSliceV rfl rfl rfl rfl rfl rfl rfl rfl rfl rfl (fun w69 b69 hE69 hB69 hb69 hO69 => ?_))))))))
  have hlt69_0 := Nat.le_trans hE61.size hb69
  have hlt69_1 := Nat.lt_of_lt_of_le hB57.lt hb69
  have hlt69_2 := Nat.le_trans hE11.size hb69
  have hlt69_3 := Nat.le_trans hE4.size hb69
  have hlt69_4 := Nat.lt_of_lt_of_le hB4.lt hb69
  have hlt69_5 := Nat.le_trans hE3.size hb69
  have hlt69_6 := Nat.lt_of_lt_of_le hB3.lt hb69
  have hlt69_7 := Nat.le_trans hE0.size hb69
  replace hE61 := Ext.trans hE61 hE69
  replace hW57 := Wr.trans hW57 (Ext.wr hE69 _)
  replace hB57 := hB57.ext hE69
  replace hW12 := Wr.trans hW12 (Ext.wr hE69 _)
  replace hE11 := Ext.trans hE11 hE69
  replace hE4 := Ext.trans hE4 hE69
  replace hB4 := hB4.ext hE69
  replace hE3 := Ext.trans hE3 hE69
  replace hB3 := hB3.ext hE69
  replace hE0 := Ext.trans hE0 hE69
  refine SegG.back rfl (by first | assumption | exact Ext.refl _) (SegG.oneSeg (o := ⟨_, _, _, _, _, _⟩) 4 rfl (by kernel_rfl) ?_)
  (refine Seg.call rfl rfl (own_of rfl) rfl (rnames1 tg (.slice ta tg.length tc) _ _ (own_sl hO69) (Sl.ext hnt (by assumption)) hzt) ?_; rintro _ w72 ⟨rfl, hE72⟩)
  replace hE69 := Ext.trans hE69 hE72
  replace hB69 := hB69.ext hE72
  replace hO69 := own_ext hO69 hE72
  replace hE61 := Ext.trans hE61 hE72
  replace hW57 := Wr.trans hW57 (Ext.wr hE72 _)
  replace hB57 := hB57.ext hE72
  replace hW12 := Wr.trans hW12 (Ext.wr hE72 _)
  replace hE11 := Ext.trans hE11 hE72
  replace hE4 := Ext.trans hE4 hE72
  replace hB4 := hB4.ext hE72
  replace hE3 := Ext.trans hE3 hE72
  replace hB3 := hB3.ext hE72
  replace hE0 := Ext.trans hE0 hE72
  refine SegG.back rfl (by first | assumption | exact Ext.refl _) (SegG.oneSeg (o := ⟨_, _, _, _, _, _⟩) 5 rfl (by kernel_rfl) (Seg.storeN rfl rfl rfl rfl hB4 rfl (by first | assumption | exact List.all_eq_true.1 rfl) (fun w75 hW75 hB75 => ?_)))
  clear hB4
  replace hB69 := hB69.wr hW75 (by omega)
  replace hO69 := own_wr hO69 hW75 (by simp [Value.ownBlock]; omega)
  replace hB57 := hB57.wr hW75 (by omega)
  replace hE4 := Ext.wr' hE4 hW75 (by omega)
  replace hE3 := Ext.wr' hE3 hW75 (by omega)
  replace hB3 := hB3.wr hW75 (by omega)
  replace hE0 := Ext.wr' hE0 hW75 (by omega)
  refine SegG.end_ rfl (SegA.pure 6 rfl (by kernel_rfl) (by kernel_rfl) (by kernel_rfl) rfl rfl (fun _ => Yd.assign rfl) (SegA.done (by kernel_rfl) (At.then_ (Cd.ret (At.blk_ret (At.then_ret ?_))))))
  exact At.ret Tryz.results67 (.cell rfl (run_loadVarN rfl rfl (show Bx _ b4 (restT (⟨nm, tg, ml, .slice na nm.length nc, .slice ta tg.length tc, .slice ma ml.length mc, ty, cl, ttl, fam, zone, pri, wt, pt, raw, i0, i1, i2, i3, i4, i5, i6, i7, i8, i9, i10, i11, i12, i13, i14, i15, m0, m1, m2, m3, m4⟩ : Rec)).cells by assumption).row) (.tmp rfl .nil)) ⟨⟨restT (⟨nm, tg, ml, .slice na nm.length nc, .slice ta tg.length tc, .slice ma ml.length mc, ty, cl, ttl, fam, zone, pri, wt, pt, raw, i0, i1, i2, i3, i4, i5, i6, i7, i8, i9, i10, i11, i12, i13, i14, i15, m0, m1, m2, m3, m4⟩ : Rec), _, rfl, ⟨(RecAt.ext hN hE0).1, nil_at _, (RecAt.ext hN hE0).2.2⟩, hw, hf.2.2.2, fun h hb => .t (.inr hk) hb.1 (chk1 h) hb.2.2.1 hb.2.2.2.1 hb.2.2.2.2.1 hb.2.2.2.2.2⟩, hE0⟩
set_option maxHeartbeats 400000 in
theorem rhas33 (r : Rec) (w : World) (hr : RecAt w r) (hw : WfR r) (hf : FitR r) (hk0 : kdN r.ty r.cl = 33) : Ret Tryz.prog 67 #[.agg r.cells.toArray] w fun v w' => (∃ r' e, v = .tuple #[.agg r'.cells.toArray, .int .i64 e] ∧ RecAt w' r' ∧ WfR r' ∧ r'.raw.length ≤ 70000 ∧ (e = 0 → Bare r' → DatOk r)) ∧ Ext w w' := by
  have hE0 := Ext.refl w
  have hnt := hr.2.1
  have hnm := hr.2.2
  have hN : Keep (RecAt w r) := hr
  obtain ⟨nm, tg, ml, vn, vt, vm, ty, cl, ttl, fam, zone, pri, wt, pt, raw, i0, i1, i2, i3, i4, i5, i6, i7, i8, i9, i10, i11, i12, i13, i14, i15, m0, m1, m2, m3, m4⟩ := r
  obtain ⟨⟨na, nc, hvn, _, _, _⟩, ⟨ta, tc, hvt, _, _, _⟩, ⟨ma, mc, hvm, _, _, _⟩⟩ := hr
  simp only at hvn hvt hvm hnt hnm
  subst hvn
  subst hvt
  subst hvm
  refine Ret.body Tryz.func67 rfl Tryz.ntmps67 rfl ?_
  have hzt : szN tg ≤ 4611686018427387904 := Nat.le_trans (fit_sz hf.2.1) (by decide)
  have hzm : szN ml ≤ 4611686018427387904 := Nat.le_trans (fit_sz hf.2.2.1) (by decide)
  have hk : kdN ty cl = 33 := hk0
  refine Cd.seq (Cd.region (Seg.box rfl rfl rfl (fun w3 b3 hE3 hB3 hb3 => ?_)))
  have hlt3_0 := Nat.le_trans hE0.size hb3
  replace hE0 := Ext.trans hE0 hE3
  refine Seg.alloc rfl rfl rfl (fun w4 b4 hE4 hB4 hb4 => ?_)
  have hlt4_0 := Nat.le_trans hE3.size hb4
  have hlt4_1 := Nat.lt_of_lt_of_le hB3.lt hb4
  have hlt4_2 := Nat.le_trans hE0.size hb4
  replace hE3 := Ext.trans hE3 hE4
  replace hB3 := hB3.ext hE4
  replace hE0 := Ext.trans hE0 hE4
  refine Seg.step rfl rfl (Yd.assign rfl) (Seg.nil (At.then_ (Cd.seq (Cd.region (Seg.step rfl rfl (Yd.loadN rfl rfl rfl hB3.row) (Seg.alloc rfl rfl rfl (fun w11 b11 hE11 hB11 hb11 => ?_)))))))
  have hlt11_0 := Nat.le_trans hE4.size hb11
  have hlt11_1 := Nat.lt_of_lt_of_le hB4.lt hb11
  have hlt11_2 := Nat.le_trans hE3.size hb11
  have hlt11_3 := Nat.lt_of_lt_of_le hB3.lt hb11
  have hlt11_4 := Nat.le_trans hE0.size hb11
  replace hE4 := Ext.trans hE4 hE11
  replace hB4 := hB4.ext hE11
  replace hE3 := Ext.trans hE3 hE11
  replace hB3 := hB3.ext hE11
  replace hE0 := Ext.trans hE0 hE11
  refine Seg.storeN rfl rfl rfl rfl hB11 rfl (by first | assumption | exact List.all_eq_true.1 rfl) (fun w12 hW12 hB12 => ?_)
  clear hB11
  replace hE11 := Ext.wr' hE11 hW12 (by omega)
  replace hE4 := Ext.wr' hE4 hW12 (by omega)
  replace hB4 := hB4.wr hW12 (by omega)
  replace hE3 := Ext.wr' hE3 hW12 (by omega)
  replace hB3 := hB3.wr hW12 (by omega)
  replace hE0 := Ext.wr' hE0 hW12 (by omega)
  refine Seg.nil (At.then_ (Cd.seq (Cd.seq (Cd.region (Seg.step rfl rfl (Yd.fieldAddr rfl rfl) (Seg.step rfl rfl (Yd.load1 rfl rfl (hB3.row _ _ rfl)) (Seg.step rfl rfl (Yd.fieldAddr rfl rfl) ?_)))))))
  refine Seg.step rfl rfl (Yd.load1 rfl rfl (hB3.row _ _ rfl)) ?_
  (refine Seg.call rfl rfl (own_of rfl) rfl (rkind_any ty cl _) ?_; rw [hk]; rintro _ w22 ⟨rfl, hE22⟩)
  replace hW12 := Wr.trans hW12 (Ext.wr hE22 _)
  replace hB12 := hB12.ext hE22
  replace hE11 := Ext.trans hE11 hE22
  replace hE4 := Ext.trans hE4 hE22
  replace hB4 := hB4.ext hE22
  replace hE3 := Ext.trans hE3 hE22
  replace hB3 := hB3.ext hE22
  replace hE0 := Ext.trans hE0 hE22
  refine Seg.nil (At.then_ (Cd.block (Cd.seq (Cd.region (Seg.step rfl rfl (Yd.eql rfl rfl) (Seg.step rfl rfl (Yd.assign rfl) (Seg.nil ?_)))))))
  refine At.then_ (Cd.condF rfl (Cd.seq (Cd.region (Seg.step rfl rfl (Yd.eql rfl rfl) (Seg.step rfl rfl (Yd.assign rfl) (Seg.nil (At.then_ ?_)))))))
  refine Cd.condF rfl (Cd.seq (Cd.seq (Cd.region (Seg.step rfl rfl (Yd.eql rfl rfl) (Seg.step rfl rfl (Yd.assign rfl) (Seg.nil (At.then_ ?_)))))))
  refine Cd.condF rfl (Cd.region (Seg.step rfl rfl (Yd.eql rfl rfl) (Seg.step rfl rfl (Yd.assign rfl) (Seg.nil (At.then_ (Cd.condF rfl (Cd.seq ?_)))))))
  refine Cd.region (Seg.step rfl rfl (Yd.eql rfl rfl) (Seg.step rfl rfl (Yd.assign rfl) (Seg.nil (At.then_ (Cd.condT rfl (Cd.seq (Cd.region ?_)))))))
  refine Seg.step rfl rfl (Yd.fieldAddr rfl rfl) ?_
  refine Seg.store1 rfl rfl rfl rfl rfl hB12 (by first | omega | (simp; done) | exact Nat.le_of_ble_eq_true rfl) (fun w64 hW64 hB64 => ?_)
  clear hB12
  replace hW12 := Wr.trans hW12 hW64
  replace hE11 := Ext.wr' hE11 hW64 (by omega)
  replace hE4 := Ext.wr' hE4 hW64 (by omega)
  replace hB4 := hB4.wr hW64 (by omega)
  replace hE3 := Ext.wr' hE3 hW64 (by omega)
  replace hB3 := hB3.wr hW64 (by omega)
  replace hE0 := Ext.wr' hE0 hW64 (by omega)
  refine Seg.step rfl rfl (Yd.fieldAddr rfl rfl) ?_
  refine Seg.store1 rfl rfl rfl rfl rfl hB64 (by first | omega | (simp; done) | exact Nat.le_of_ble_eq_true rfl) (fun w66 hW66 hB66 => ?_)
  clear hB64
  replace hW64 := Wr.trans hW64 hW66
  replace hW12 := Wr.trans hW12 hW66
  replace hE11 := Ext.wr' hE11 hW66 (by omega)
  replace hE4 := Ext.wr' hE4 hW66 (by omega)
  replace hB4 := hB4.wr hW66 (by omega)
  replace hE3 := Ext.wr' hE3 hW66 (by omega)
  replace hB3 := hB3.wr hW66 (by omega)
  replace hE0 := Ext.wr' hE0 hW66 (by omega)
  refine Seg.step rfl rfl (Yd.fieldAddr rfl rfl) ?_
  refine Seg.store1 rfl rfl rfl rfl rfl hB66 (by first | omega | (simp; done) | exact Nat.le_of_ble_eq_true rfl) (fun w68 hW68 hB68 => ?_)
  clear hB66
  replace hW66 := Wr.trans hW66 hW68
  replace hW64 := Wr.trans hW64 hW68
  replace hW12 := Wr.trans hW12 hW68
  replace hE11 := Ext.wr' hE11 hW68 (by omega)
  replace hE4 := Ext.wr' hE4 hW68 (by omega)
  replace hB4 := hB4.wr hW68 (by omega)
  replace hE3 := Ext.wr' hE3 hW68 (by omega)
  replace hB3 := hB3.wr hW68 (by omega)
  replace hE0 := Ext.wr' hE0 hW68 (by omega)
  refine Seg.step rfl rfl (Yd.fieldAddr rfl rfl) ?_
  refine Seg.store1 rfl rfl rfl rfl rfl hB68 (by first | omega | (simp; done) | exact Nat.le_of_ble_eq_true rfl) (fun w70 hW70 hB70 => ?_)
  clear hB68
  replace hW68 := Wr.trans hW68 hW70
  replace hW66 := Wr.trans hW66 hW70
  replace hW64 := Wr.trans hW64 hW70
  replace hW12 := Wr.trans hW12 hW70
  replace hE11 := Ext.wr' hE11 hW70 (by omega)
  replace hE4 := Ext.wr' hE4 hW70 (by omega)
  replace hB4 := hB4.wr hW70 (by omega)
  replace hE3 := Ext.wr' hE3 hW70 (by omega)
  replace hB3 := hB3.wr hW70 (by omega)
  replace hE0 := Ext.wr' hE0 hW70 (by omega)
  refine Seg.nil (At.then_ (Cd.seq (Cd.seq (Cd.region (Seg.step rfl rfl (Yd.fieldAddr rfl rfl) (Seg.step rfl rfl (Yd.load1 rfl rfl (hB3.row _ _ rfl)) (Seg.step rfl rfl (Yd.fieldAddr rfl rfl) ?_)))))))
  refine Seg.step rfl rfl (Yd.load1 rfl rfl (hB3.row _ _ rfl)) (Seg.step rfl rfl (Yd.fieldAddr rfl rfl) (Seg.step rfl rfl (Yd.load1 rfl rfl (hB3.row _ _ rfl)) (Seg.buildSliceV rfl rfl rfl rfl rfl rfl rfl rfl rfl rfl (fun w82 b82 hE82 hB82 hb82 hO82 => ?_))))
  have hlt82_0 := Nat.lt_of_lt_of_le hB70.lt hb82
  have hlt82_1 := Nat.le_trans hE11.size hb82
  have hlt82_2 := Nat.le_trans hE4.size hb82
  have hlt82_3 := Nat.lt_of_lt_of_le hB4.lt hb82
  have hlt82_4 := Nat.le_trans hE3.size hb82
  have hlt82_5 := Nat.lt_of_lt_of_le hB3.lt hb82
  have hlt82_6 := Nat.le_trans hE0.size hb82
  replace hW70 := Wr.trans hW70 (Ext.wr hE82 _)
  replace hB70 := hB70.ext hE82
  replace hW68 := Wr.trans hW68 (Ext.wr hE82 _)
  replace hW66 := Wr.trans hW66 (Ext.wr hE82 _)
  replace hW64 := Wr.trans hW64 (Ext.wr hE82 _)
  replace hW12 := Wr.trans hW12 (Ext.wr hE82 _)
  replace hE11 := Ext.trans hE11 hE82
  replace hE4 := Ext.trans hE4 hE82
  replace hB4 := hB4.ext hE82
  replace hE3 := Ext.trans hE3 hE82
  replace hB3 := hB3.ext hE82
  replace hE0 := Ext.trans hE0 hE82
  (refine Seg.call rfl rfl (own_of rfl) rfl (rwithin_any 65535 [pri, wt, pt] _ _ (own_sl hO82) (show 3 ≤ 100 by decide)) ?_; rintro _ w83 ⟨rfl, hE83⟩)
  replace hE82 := Ext.trans hE82 hE83
  replace hB82 := hB82.ext hE83
  replace hO82 := own_ext hO82 hE83
  replace hW70 := Wr.trans hW70 (Ext.wr hE83 _)
  replace hB70 := hB70.ext hE83
  replace hW68 := Wr.trans hW68 (Ext.wr hE83 _)
  replace hW66 := Wr.trans hW66 (Ext.wr hE83 _)
  replace hW64 := Wr.trans hW64 (Ext.wr hE83 _)
  replace hW12 := Wr.trans hW12 (Ext.wr hE83 _)
  replace hE11 := Ext.trans hE11 hE83
  replace hE4 := Ext.trans hE4 hE83
  replace hB4 := hB4.ext hE83
  replace hE3 := Ext.trans hE3 hE83
  replace hB3 := hB3.ext hE83
  replace hE0 := Ext.trans hE0 hE83
  refine Seg.step rfl rfl (Yd.notp rfl) (Seg.nil (At.then_ ?_))
  refine Cd.condk rfl (fun h87 => ?_) (fun h87 => ?_)
  · refine Cd.seq (Cd.region (Seg.step rfl rfl (Yd.loadN rfl rfl rfl hB70.row) (Seg.storeN rfl rfl rfl rfl hB4 rfl (by first | assumption | exact List.all_eq_true.1 rfl) (fun w92 hW92 hB92 => ?_))))
    clear hB4
    replace hB82 := hB82.wr hW92 (by omega)
    replace hO82 := own_wr hO82 hW92 (by simp [Value.ownBlock]; omega)
    replace hB70 := hB70.wr hW92 (by omega)
    replace hE4 := Ext.wr' hE4 hW92 (by omega)
    replace hE3 := Ext.wr' hE3 hW92 (by omega)
    replace hB3 := hB3.wr hW92 (by omega)
    replace hE0 := Ext.wr' hE0 hW92 (by omega)
    refine Seg.step rfl rfl (Yd.assign rfl) (Seg.nil (At.then_ (Cd.ret (At.then_ret (At.blk_ret (At.then_ret ?_))))))
    first | exact At.ret Tryz.results67 (.cell rfl (run_loadVarN rfl rfl (show Bx _ b4 (restS (⟨nm, tg, ml, .slice na nm.length nc, .slice ta tg.length tc, .slice ma ml.length mc, ty, cl, ttl, fam, zone, pri, wt, pt, raw, i0, i1, i2, i3, i4, i5, i6, i7, i8, i9, i10, i11, i12, i13, i14, i15, m0, m1, m2, m3, m4⟩ : Rec)).cells by assumption).row) (.tmp rfl .nil)) ⟨⟨restS (⟨nm, tg, ml, .slice na nm.length nc, .slice ta tg.length tc, .slice ma ml.length mc, ty, cl, ttl, fam, zone, pri, wt, pt, raw, i0, i1, i2, i3, i4, i5, i6, i7, i8, i9, i10, i11, i12, i13, i14, i15, m0, m1, m2, m3, m4⟩ : Rec), _, rfl, ⟨(RecAt.ext hN hE0).1, nil_at _, (RecAt.ext hN hE0).2.2⟩, hw, hf.2.2.2, fun h hb => absurd h (by decide)⟩, hE0⟩ | exact At.ret Tryz.results67 (.cell rfl (run_loadVarN rfl rfl (show Bx _ b4 (restS (⟨nm, tg, ml, .slice na nm.length nc, .slice ta tg.length tc, .slice ma ml.length mc, ty, cl, ttl, fam, zone, pri, wt, pt, raw, i0, i1, i2, i3, i4, i5, i6, i7, i8, i9, i10, i11, i12, i13, i14, i15, m0, m1, m2, m3, m4⟩ : Rec)).cells by assumption).row) (.tmp rfl .nil)) ⟨⟨restS (⟨nm, tg, ml, .slice na nm.length nc, .slice ta tg.length tc, .slice ma ml.length mc, ty, cl, ttl, fam, zone, pri, wt, pt, raw, i0, i1, i2, i3, i4, i5, i6, i7, i8, i9, i10, i11, i12, i13, i14, i15, m0, m1, m2, m3, m4⟩ : Rec), _, rfl, ⟨(RecAt.ext hN hE0).1, nil_at _, (RecAt.ext hN hE0).2.2⟩, hw, hf.2.2.2, fun h hb => .s hk hb.1 (chk1 h) hb.2.2.1 (Classical.not_not.1 (by assumption)) hb.2.2.2.2.1 hb.2.2.2.2.2⟩, hE0⟩
  · refine Cd.skip (At.then_ (Cd.seq (Cd.anyE (by kernel_rfl) (fun w105 hE105 => ?_))))
    replace hE83 := Ext.trans hE83 hE105
    replace hE82 := Ext.trans hE82 hE105
    replace hB82 := hB82.ext hE105
    replace hO82 := own_ext hO82 hE105
    replace hW70 := Wr.trans hW70 (Ext.wr hE105 _)
    replace hB70 := hB70.ext hE105
    replace hW68 := Wr.trans hW68 (Ext.wr hE105 _)
    replace hW66 := Wr.trans hW66 (Ext.wr hE105 _)
    replace hW64 := Wr.trans hW64 (Ext.wr hE105 _)
    replace hW12 := Wr.trans hW12 (Ext.wr hE105 _)
    replace hE11 := Ext.trans hE11 hE105
    replace hE4 := Ext.trans hE4 hE105
    replace hB4 := hB4.ext hE105
    replace hE3 := Ext.trans hE3 hE105
    replace hB3 := hB3.ext hE105
    replace hE0 := Ext.trans hE0 hE105
    refine SegA.pure 1 rfl (by kernel_rfl) (by kernel_rfl) (by kernel_rfl) rfl rfl (fun _ => Yd.fieldAddr rfl rfl) (SegA.held 5 (SegG.take 0 rfl (by kernel_rfl) (by kernel_rfl) (by kernel_rfl) (by kernel_rfl) (by kernel_rfl) rfl rfl (fun w' hw' => Yd.loadN rfl rfl rfl (hB70.ext hw').row) (SegG.oneSeg (o := ⟨_, _, _, _, _, _⟩) 2 rfl (by kernel_rfl) (Seg.step rfl rfl (Yd.load1 rfl rfl (hB3.row _ _ rfl)) (SegG.back rfl (by first | assumption | exact Ext.refl _) (SegG.oneSeg (o := ⟨_, _, _, _, _, _⟩) 3 rfl (by kernel_rfl) (Seg.buildSliceV rfl rfl rfl rfl rfl rfl rfl rfl rfl rfl (fun w113 b113 hE113 hB113 hb113 hO113 => ?_))))))))
    have hlt113_0 := Nat.le_trans hE105.size hb113
    have hlt113_1 := Nat.le_trans hE83.size hb113
    have hlt113_2 := Nat.le_trans hE82.size hb113
    have hlt113_3 := Nat.lt_of_lt_of_le hB82.lt hb113
    have hlt113_4 := Nat.lt_of_lt_of_le hB70.lt hb113
    have hlt113_5 := Nat.le_trans hE11.size hb113
    have hlt113_6 := Nat.le_trans hE4.size hb113
    have hlt113_7 := Nat.lt_of_lt_of_le hB4.lt hb113
    have hlt113_8 := Nat.le_trans hE3.size hb113
    have hlt113_9 := Nat.lt_of_lt_of_le hB3.lt hb113
    have hlt113_10 := Nat.le_trans hE0.size hb113
    replace hE105 := Ext.trans hE105 hE113
    replace hE83 := Ext.trans hE83 hE113
    replace hE82 := Ext.trans hE82 hE113
    replace hB82 := hB82.ext hE113
    replace hO82 := own_ext hO82 hE113
    replace hW70 := Wr.trans hW70 (Ext.wr hE113 _)
    replace hB70 := hB70.ext hE113
    replace hW68 := Wr.trans hW68 (Ext.wr hE113 _)
    replace hW66 := Wr.trans hW66 (Ext.wr hE113 _)
    replace hW64 := Wr.trans hW64 (Ext.wr hE113 _)
    replace hW12 := Wr.trans hW12 (Ext.wr hE113 _)
    replace hE11 := Ext.trans hE11 hE113
    replace hE4 := Ext.trans hE4 hE113
    replace hB4 := hB4.ext hE113
    replace hE3 := Ext.trans hE3 hE113
    replace hB3 := hB3.ext hE113
    replace hE0 := Ext.trans hE0 hE113
    refine SegG.back rfl (by first | assumption | exact Ext.refl _) (SegG.oneSeg (o := ⟨_, _, _, _, _, _⟩) 4 rfl (by kernel_rfl) ?_)
    (refine Seg.call rfl rfl (own_of rfl) rfl (rnames1 tg (.slice ta tg.length tc) _ _ (own_sl hO113) (Sl.ext hnt (by assumption)) hzt) ?_; rintro _ w116 ⟨rfl, hE116⟩)
    replace hE113 := Ext.trans hE113 hE116
    replace hB113 := hB113.ext hE116
    replace hO113 := own_ext hO113 hE116
    replace hE105 := Ext.trans hE105 hE116
    replace hE83 := Ext.trans hE83 hE116
    replace hE82 := Ext.trans hE82 hE116
    replace hB82 := hB82.ext hE116
    replace hO82 := own_ext hO82 hE116
    replace hW70 := Wr.trans hW70 (Ext.wr hE116 _)
    replace hB70 := hB70.ext hE116
    replace hW68 := Wr.trans hW68 (Ext.wr hE116 _)
    replace hW66 := Wr.trans hW66 (Ext.wr hE116 _)
    replace hW64 := Wr.trans hW64 (Ext.wr hE116 _)
    replace hW12 := Wr.trans hW12 (Ext.wr hE116 _)
    replace hE11 := Ext.trans hE11 hE116
    replace hE4 := Ext.trans hE4 hE116
    replace hB4 := hB4.ext hE116
    replace hE3 := Ext.trans hE3 hE116
    replace hB3 := hB3.ext hE116
    replace hE0 := Ext.trans hE0 hE116
    refine SegG.back rfl (by first | assumption | exact Ext.refl _) (SegG.oneSeg (o := ⟨_, _, _, _, _, _⟩) 5 rfl (by kernel_rfl) (Seg.storeN rfl rfl rfl rfl hB4 rfl (by first | assumption | exact List.all_eq_true.1 rfl) (fun w119 hW119 hB119 => ?_)))
    clear hB4
    replace hB113 := hB113.wr hW119 (by omega)
    replace hO113 := own_wr hO113 hW119 (by simp [Value.ownBlock]; omega)
    replace hB82 := hB82.wr hW119 (by omega)
    replace hO82 := own_wr hO82 hW119 (by simp [Value.ownBlock]; omega)
    replace hB70 := hB70.wr hW119 (by omega)
    replace hE4 := Ext.wr' hE4 hW119 (by omega)
    replace hE3 := Ext.wr' hE3 hW119 (by omega)
    replace hB3 := hB3.wr hW119 (by omega)
    replace hE0 := Ext.wr' hE0 hW119 (by omega)
    refine SegG.end_ rfl (SegA.pure 6 rfl (by kernel_rfl) (by kernel_rfl) (by kernel_rfl) rfl rfl (fun _ => Yd.assign rfl) (SegA.done (by kernel_rfl) (At.then_ (Cd.ret (At.blk_ret (At.then_ret ?_))))))
    first | exact At.ret Tryz.results67 (.cell rfl (run_loadVarN rfl rfl (show Bx _ b4 (restS (⟨nm, tg, ml, .slice na nm.length nc, .slice ta tg.length tc, .slice ma ml.length mc, ty, cl, ttl, fam, zone, pri, wt, pt, raw, i0, i1, i2, i3, i4, i5, i6, i7, i8, i9, i10, i11, i12, i13, i14, i15, m0, m1, m2, m3, m4⟩ : Rec)).cells by assumption).row) (.tmp rfl .nil)) ⟨⟨restS (⟨nm, tg, ml, .slice na nm.length nc, .slice ta tg.length tc, .slice ma ml.length mc, ty, cl, ttl, fam, zone, pri, wt, pt, raw, i0, i1, i2, i3, i4, i5, i6, i7, i8, i9, i10, i11, i12, i13, i14, i15, m0, m1, m2, m3, m4⟩ : Rec), _, rfl, ⟨(RecAt.ext hN hE0).1, nil_at _, (RecAt.ext hN hE0).2.2⟩, hw, hf.2.2.2, fun h hb => absurd h (by decide)⟩, hE0⟩ | exact At.ret Tryz.results67 (.cell rfl (run_loadVarN rfl rfl (show Bx _ b4 (restS (⟨nm, tg, ml, .slice na nm.length nc, .slice ta tg.length tc, .slice ma ml.length mc, ty, cl, ttl, fam, zone, pri, wt, pt, raw, i0, i1, i2, i3, i4, i5, i6, i7, i8, i9, i10, i11, i12, i13, i14, i15, m0, m1, m2, m3, m4⟩ : Rec)).cells by assumption).row) (.tmp rfl .nil)) ⟨⟨restS (⟨nm, tg, ml, .slice na nm.length nc, .slice ta tg.length tc, .slice ma ml.length mc, ty, cl, ttl, fam, zone, pri, wt, pt, raw, i0, i1, i2, i3, i4, i5, i6, i7, i8, i9, i10, i11, i12, i13, i14, i15, m0, m1, m2, m3, m4⟩ : Rec), _, rfl, ⟨(RecAt.ext hN hE0).1, nil_at _, (RecAt.ext hN hE0).2.2⟩, hw, hf.2.2.2, fun h hb => .s hk hb.1 (chk1 h) hb.2.2.1 (Classical.not_not.1 (by assumption)) hb.2.2.2.2.1 hb.2.2.2.2.2⟩, hE0⟩
set_option maxHeartbeats 400000 in
theorem rhas6 (r : Rec) (w : World) (hr : RecAt w r) (hw : WfR r) (hf : FitR r) (hk0 : kdN r.ty r.cl = 6) : Ret Tryz.prog 67 #[.agg r.cells.toArray] w fun v w' => (∃ r' e, v = .tuple #[.agg r'.cells.toArray, .int .i64 e] ∧ RecAt w' r' ∧ WfR r' ∧ r'.raw.length ≤ 70000 ∧ (e = 0 → Bare r' → DatOk r)) ∧ Ext w w' := by
  have hE0 := Ext.refl w
  have hnt := hr.2.1
  have hnm := hr.2.2
  have hN : Keep (RecAt w r) := hr
  obtain ⟨nm, tg, ml, vn, vt, vm, ty, cl, ttl, fam, zone, pri, wt, pt, raw, i0, i1, i2, i3, i4, i5, i6, i7, i8, i9, i10, i11, i12, i13, i14, i15, m0, m1, m2, m3, m4⟩ := r
  obtain ⟨⟨na, nc, hvn, _, _, _⟩, ⟨ta, tc, hvt, _, _, _⟩, ⟨ma, mc, hvm, _, _, _⟩⟩ := hr
  simp only at hvn hvt hvm hnt hnm
  subst hvn
  subst hvt
  subst hvm
  refine Ret.body Tryz.func67 rfl Tryz.ntmps67 rfl ?_
  have hzt : szN tg ≤ 4611686018427387904 := Nat.le_trans (fit_sz hf.2.1) (by decide)
  have hzm : szN ml ≤ 4611686018427387904 := Nat.le_trans (fit_sz hf.2.2.1) (by decide)
  have hk : kdN ty cl = 6 := hk0
  refine Cd.seq (Cd.region (Seg.box rfl rfl rfl (fun w3 b3 hE3 hB3 hb3 => ?_)))
  have hlt3_0 := Nat.le_trans hE0.size hb3
  replace hE0 := Ext.trans hE0 hE3
  refine Seg.alloc rfl rfl rfl (fun w4 b4 hE4 hB4 hb4 => ?_)
  have hlt4_0 := Nat.le_trans hE3.size hb4
  have hlt4_1 := Nat.lt_of_lt_of_le hB3.lt hb4
  have hlt4_2 := Nat.le_trans hE0.size hb4
  replace hE3 := Ext.trans hE3 hE4
  replace hB3 := hB3.ext hE4
  replace hE0 := Ext.trans hE0 hE4
  refine Seg.step rfl rfl (Yd.assign rfl) (Seg.nil (At.then_ (Cd.seq (Cd.region (Seg.step rfl rfl (Yd.loadN rfl rfl rfl hB3.row) (Seg.alloc rfl rfl rfl (fun w11 b11 hE11 hB11 hb11 => ?_)))))))
  have hlt11_0 := Nat.le_trans hE4.size hb11
  have hlt11_1 := Nat.lt_of_lt_of_le hB4.lt hb11
  have hlt11_2 := Nat.le_trans hE3.size hb11
  have hlt11_3 := Nat.lt_of_lt_of_le hB3.lt hb11
  have hlt11_4 := Nat.le_trans hE0.size hb11
  replace hE4 := Ext.trans hE4 hE11
  replace hB4 := hB4.ext hE11
  replace hE3 := Ext.trans hE3 hE11
  replace hB3 := hB3.ext hE11
  replace hE0 := Ext.trans hE0 hE11
  refine Seg.storeN rfl rfl rfl rfl hB11 rfl (by first | assumption | exact List.all_eq_true.1 rfl) (fun w12 hW12 hB12 => ?_)
  clear hB11
  replace hE11 := Ext.wr' hE11 hW12 (by omega)
  replace hE4 := Ext.wr' hE4 hW12 (by omega)
  replace hB4 := hB4.wr hW12 (by omega)
  replace hE3 := Ext.wr' hE3 hW12 (by omega)
  replace hB3 := hB3.wr hW12 (by omega)
  replace hE0 := Ext.wr' hE0 hW12 (by omega)
  refine Seg.nil (At.then_ (Cd.seq (Cd.seq (Cd.region (Seg.step rfl rfl (Yd.fieldAddr rfl rfl) (Seg.step rfl rfl (Yd.load1 rfl rfl (hB3.row _ _ rfl)) (Seg.step rfl rfl (Yd.fieldAddr rfl rfl) ?_)))))))
  refine Seg.step rfl rfl (Yd.load1 rfl rfl (hB3.row _ _ rfl)) ?_
  (refine Seg.call rfl rfl (own_of rfl) rfl (rkind_any ty cl _) ?_; rw [hk]; rintro _ w22 ⟨rfl, hE22⟩)
  replace hW12 := Wr.trans hW12 (Ext.wr hE22 _)
  replace hB12 := hB12.ext hE22
  replace hE11 := Ext.trans hE11 hE22
  replace hE4 := Ext.trans hE4 hE22
  replace hB4 := hB4.ext hE22
  replace hE3 := Ext.trans hE3 hE22
  replace hB3 := hB3.ext hE22
  replace hE0 := Ext.trans hE0 hE22
  refine Seg.nil (At.then_ (Cd.block (Cd.seq (Cd.region (Seg.step rfl rfl (Yd.eql rfl rfl) (Seg.step rfl rfl (Yd.assign rfl) (Seg.nil ?_)))))))
  refine At.then_ (Cd.condF rfl (Cd.seq (Cd.region (Seg.step rfl rfl (Yd.eql rfl rfl) (Seg.step rfl rfl (Yd.assign rfl) (Seg.nil (At.then_ ?_)))))))
  refine Cd.condF rfl (Cd.seq (Cd.seq (Cd.region (Seg.step rfl rfl (Yd.eql rfl rfl) (Seg.step rfl rfl (Yd.assign rfl) (Seg.nil (At.then_ ?_)))))))
  refine Cd.condF rfl (Cd.region (Seg.step rfl rfl (Yd.eql rfl rfl) (Seg.step rfl rfl (Yd.assign rfl) (Seg.nil (At.then_ (Cd.condF rfl (Cd.seq ?_)))))))
  refine Cd.region (Seg.step rfl rfl (Yd.eql rfl rfl) (Seg.step rfl rfl (Yd.assign rfl) (Seg.nil (At.then_ (Cd.condF rfl (Cd.seq (Cd.region ?_)))))))
  refine Seg.step rfl rfl (Yd.eql rfl rfl) (Seg.step rfl rfl (Yd.assign rfl) (Seg.nil (At.then_ (Cd.condT rfl (Cd.seq (Cd.region (Seg.step rfl rfl (Yd.buildArrT (cs := _ :: _ :: _ :: _ :: _ :: []) 5 rfl rfl rfl rfl rfl) ?_)))))))
  refine Seg.step rfl rfl (Yd.fieldAddr rfl rfl) ?_
  refine Seg.store1 rfl rfl rfl rfl rfl hB12 (by first | omega | (simp; done) | exact Nat.le_of_ble_eq_true rfl) (fun w72 hW72 hB72 => ?_)
  clear hB12
  replace hW12 := Wr.trans hW12 hW72
  replace hE11 := Ext.wr' hE11 hW72 (by omega)
  replace hE4 := Ext.wr' hE4 hW72 (by omega)
  replace hB4 := hB4.wr hW72 (by omega)
  replace hE3 := Ext.wr' hE3 hW72 (by omega)
  replace hB3 := hB3.wr hW72 (by omega)
  replace hE0 := Ext.wr' hE0 hW72 (by omega)
  refine Seg.step rfl rfl (Yd.fieldAddr rfl rfl) ?_
  refine Seg.store1 rfl rfl rfl rfl rfl hB72 (by first | omega | (simp; done) | exact Nat.le_of_ble_eq_true rfl) (fun w74 hW74 hB74 => ?_)
  clear hB72
  replace hW72 := Wr.trans hW72 hW74
  replace hW12 := Wr.trans hW12 hW74
  replace hE11 := Ext.wr' hE11 hW74 (by omega)
  replace hE4 := Ext.wr' hE4 hW74 (by omega)
  replace hB4 := hB4.wr hW74 (by omega)
  replace hE3 := Ext.wr' hE3 hW74 (by omega)
  replace hB3 := hB3.wr hW74 (by omega)
  replace hE0 := Ext.wr' hE0 hW74 (by omega)
  refine Seg.step rfl rfl (Yd.fieldAddr rfl rfl) (Seg.storeP rfl rfl rfl rfl hB74 (Nat.le_of_ble_eq_true rfl) (by first | assumption | exact List.all_eq_true.1 rfl) (fun w76 hW76 hB76 => ?_))
  clear hB74
  replace hW74 := Wr.trans hW74 hW76
  replace hW72 := Wr.trans hW72 hW76
  replace hW12 := Wr.trans hW12 hW76
  replace hE11 := Ext.wr' hE11 hW76 (by omega)
  replace hE4 := Ext.wr' hE4 hW76 (by omega)
  replace hB4 := hB4.wr hW76 (by omega)
  replace hE3 := Ext.wr' hE3 hW76 (by omega)
  replace hB3 := hB3.wr hW76 (by omega)
  replace hE0 := Ext.wr' hE0 hW76 (by omega)
  refine Seg.nil (At.then_ (Cd.seq (Cd.seq (Cd.region (Seg.step rfl rfl (Yd.fieldAddr rfl rfl) (Seg.step rfl rfl (Yd.load1 rfl rfl (hB3.row _ _ rfl)) (Seg.step rfl rfl (Yd.fieldAddr rfl rfl) ?_)))))))
  refine Seg.step rfl rfl (Yd.load1 rfl rfl (hB3.row _ _ rfl)) (Seg.buildSliceV rfl rfl rfl rfl rfl rfl rfl rfl rfl rfl (fun w86 b86 hE86 hB86 hb86 hO86 => ?_))
  have hlt86_0 := Nat.lt_of_lt_of_le hB76.lt hb86
  have hlt86_1 := Nat.le_trans hE11.size hb86
  have hlt86_2 := Nat.le_trans hE4.size hb86
  have hlt86_3 := Nat.lt_of_lt_of_le hB4.lt hb86
  have hlt86_4 := Nat.le_trans hE3.size hb86
  have hlt86_5 := Nat.lt_of_lt_of_le hB3.lt hb86
  have hlt86_6 := Nat.le_trans hE0.size hb86
  replace hW76 := Wr.trans hW76 (Ext.wr hE86 _)
  replace hB76 := hB76.ext hE86
  replace hW74 := Wr.trans hW74 (Ext.wr hE86 _)
  replace hW72 := Wr.trans hW72 (Ext.wr hE86 _)
  replace hW12 := Wr.trans hW12 (Ext.wr hE86 _)
  replace hE11 := Ext.trans hE11 hE86
  replace hE4 := Ext.trans hE4 hE86
  replace hB4 := hB4.ext hE86
  replace hE3 := Ext.trans hE3 hE86
  replace hB3 := hB3.ext hE86
  replace hE0 := Ext.trans hE0 hE86
  (refine Seg.call rfl rfl (own_of rfl) rfl (rnames2 tg ml (.slice ta tg.length tc) (.slice ma ml.length mc) _ _ (own_sl hO86) (Sl.ext hnt (by assumption)) (Sl.ext hnm (by assumption)) hzt hzm) ?_; rintro _ w87 ⟨rfl, hE87⟩)
  replace hE86 := Ext.trans hE86 hE87
  replace hB86 := hB86.ext hE87
  replace hO86 := own_ext hO86 hE87
  replace hW76 := Wr.trans hW76 (Ext.wr hE87 _)
  replace hB76 := hB76.ext hE87
  replace hW74 := Wr.trans hW74 (Ext.wr hE87 _)
  replace hW72 := Wr.trans hW72 (Ext.wr hE87 _)
  replace hW12 := Wr.trans hW12 (Ext.wr hE87 _)
  replace hE11 := Ext.trans hE11 hE87
  replace hE4 := Ext.trans hE4 hE87
  replace hB4 := hB4.ext hE87
  replace hE3 := Ext.trans hE3 hE87
  replace hB3 := hB3.ext hE87
  replace hE0 := Ext.trans hE0 hE87
  refine Seg.step rfl rfl (Yd.assign rfl) (Seg.nil (At.then_ (Cd.seq (Cd.region (Seg.step rfl rfl (Yd.move rfl) (Seg.step rfl rfl (Yd.neq rfl rfl) (Seg.nil ?_)))))))
  refine At.then_ ?_
  refine Cd.condk rfl (fun h97 => ?_) (fun h97 => ?_)
  · refine Cd.seq (Cd.region (Seg.step rfl rfl (Yd.loadN rfl rfl rfl hB76.row) (Seg.step rfl rfl (Yd.move rfl) (Seg.storeN rfl rfl rfl rfl hB4 rfl (by first | assumption | exact List.all_eq_true.1 rfl) (fun w103 hW103 hB103 => ?_)))))
    clear hB4
    replace hB86 := hB86.wr hW103 (by omega)
    replace hO86 := own_wr hO86 hW103 (by simp [Value.ownBlock]; omega)
    replace hB76 := hB76.wr hW103 (by omega)
    replace hE4 := Ext.wr' hE4 hW103 (by omega)
    replace hE3 := Ext.wr' hE3 hW103 (by omega)
    replace hB3 := hB3.wr hW103 (by omega)
    replace hE0 := Ext.wr' hE0 hW103 (by omega)
    refine Seg.step rfl rfl (Yd.assign rfl) (Seg.nil (At.then_ (Cd.ret (At.then_ret (At.blk_ret (At.then_ret ?_))))))
    exact At.ret Tryz.results67 (.cell rfl (run_loadVarN rfl rfl (show Bx _ b4 (restO (⟨nm, tg, ml, .slice na nm.length nc, .slice ta tg.length tc, .slice ma ml.length mc, ty, cl, ttl, fam, zone, pri, wt, pt, raw, i0, i1, i2, i3, i4, i5, i6, i7, i8, i9, i10, i11, i12, i13, i14, i15, m0, m1, m2, m3, m4⟩ : Rec)).cells by assumption).row) (.tmp rfl .nil)) ⟨⟨restO (⟨nm, tg, ml, .slice na nm.length nc, .slice ta tg.length tc, .slice ma ml.length mc, ty, cl, ttl, fam, zone, pri, wt, pt, raw, i0, i1, i2, i3, i4, i5, i6, i7, i8, i9, i10, i11, i12, i13, i14, i15, m0, m1, m2, m3, m4⟩ : Rec), _, rfl, ⟨(RecAt.ext hN hE0).1, nil_at _, nil_at _⟩, wf_nums _ hw, hf.2.2.2, fun h hb => absurd h (by first | assumption | decide)⟩, hE0⟩
  · refine Cd.skip (At.then_ (Cd.seq (Cd.seq (Cd.region (Seg.step rfl rfl (Yd.fieldAddr rfl rfl) (Seg.step rfl rfl ((Yd.slAr (m := 4) rfl rfl)) ?_))))))
    (refine Seg.call rfl rfl (own_of rfl) rfl (rwithin_any 4294967295 [m0, m1, m2, m3, m4] _ _ ⟨_, _, rfl, rfl, (fun a ha => by cases ha; exact (show Row _ (Addr.add ⟨b3, 0, none⟩ 27) (⟨nm, tg, ml, .slice na nm.length nc, .slice ta tg.length tc, .slice ma ml.length mc, ty, cl, ttl, fam, zone, pri, wt, pt, raw, i0, i1, i2, i3, i4, i5, i6, i7, i8, i9, i10, i11, i12, i13, i14, i15, m0, m1, m2, m3, m4⟩ : Rec).numV from Row.part hB3.row 27 5)), fun h => by cases h⟩ (show 5 ≤ 100 by decide)) ?_; rintro _ w120 ⟨rfl, hE120⟩)
    replace hE87 := Ext.trans hE87 hE120
    replace hE86 := Ext.trans hE86 hE120
    replace hB86 := hB86.ext hE120
    replace hO86 := own_ext hO86 hE120
    replace hW76 := Wr.trans hW76 (Ext.wr hE120 _)
    replace hB76 := hB76.ext hE120
    replace hW74 := Wr.trans hW74 (Ext.wr hE120 _)
    replace hW72 := Wr.trans hW72 (Ext.wr hE120 _)
    replace hW12 := Wr.trans hW12 (Ext.wr hE120 _)
    replace hE11 := Ext.trans hE11 hE120
    replace hE4 := Ext.trans hE4 hE120
    replace hB4 := hB4.ext hE120
    replace hE3 := Ext.trans hE3 hE120
    replace hB3 := hB3.ext hE120
    replace hE0 := Ext.trans hE0 hE120
    refine Seg.step rfl rfl (Yd.notp rfl) (Seg.nil (At.then_ ?_))
    refine Cd.condk rfl (fun h124 => ?_) (fun h124 => ?_)
    · refine Cd.seq (Cd.region (Seg.step rfl rfl (Yd.loadN rfl rfl rfl hB76.row) (Seg.storeN rfl rfl rfl rfl hB4 rfl (by first | assumption | exact List.all_eq_true.1 rfl) (fun w129 hW129 hB129 => ?_))))
      clear hB4
      replace hB86 := hB86.wr hW129 (by omega)
      replace hO86 := own_wr hO86 hW129 (by simp [Value.ownBlock]; omega)
      replace hB76 := hB76.wr hW129 (by omega)
      replace hE4 := Ext.wr' hE4 hW129 (by omega)
      replace hE3 := Ext.wr' hE3 hW129 (by omega)
      replace hB3 := hB3.wr hW129 (by omega)
      replace hE0 := Ext.wr' hE0 hW129 (by omega)
      refine Seg.step rfl rfl (Yd.assign rfl) (Seg.nil (At.then_ (Cd.ret (At.then_ret (At.blk_ret (At.then_ret ?_))))))
      exact At.ret Tryz.results67 (.cell rfl (run_loadVarN rfl rfl (show Bx _ b4 (restO (⟨nm, tg, ml, .slice na nm.length nc, .slice ta tg.length tc, .slice ma ml.length mc, ty, cl, ttl, fam, zone, pri, wt, pt, raw, i0, i1, i2, i3, i4, i5, i6, i7, i8, i9, i10, i11, i12, i13, i14, i15, m0, m1, m2, m3, m4⟩ : Rec)).cells by assumption).row) (.tmp rfl .nil)) ⟨⟨restO (⟨nm, tg, ml, .slice na nm.length nc, .slice ta tg.length tc, .slice ma ml.length mc, ty, cl, ttl, fam, zone, pri, wt, pt, raw, i0, i1, i2, i3, i4, i5, i6, i7, i8, i9, i10, i11, i12, i13, i14, i15, m0, m1, m2, m3, m4⟩ : Rec), _, rfl, ⟨(RecAt.ext hN hE0).1, nil_at _, nil_at _⟩, wf_nums _ hw, hf.2.2.2, fun h hb => absurd h (by first | assumption | decide)⟩, hE0⟩
    · refine Cd.skip (At.then_ (Cd.seq (Cd.region (Seg.step rfl rfl (Yd.loadN rfl rfl rfl hB76.row) (Seg.storeN rfl rfl rfl rfl hB4 rfl (by first | assumption | exact List.all_eq_true.1 rfl) (fun w144 hW144 hB144 => ?_))))))
      clear hB4
      replace hB86 := hB86.wr hW144 (by omega)
      replace hO86 := own_wr hO86 hW144 (by simp [Value.ownBlock]; omega)
      replace hB76 := hB76.wr hW144 (by omega)
      replace hE4 := Ext.wr' hE4 hW144 (by omega)
      replace hE3 := Ext.wr' hE3 hW144 (by omega)
      replace hB3 := hB3.wr hW144 (by omega)
      replace hE0 := Ext.wr' hE0 hW144 (by omega)
      refine Seg.step rfl rfl (Yd.assign rfl) (Seg.nil (At.then_ (Cd.ret (At.blk_ret (At.then_ret ?_)))))
      exact At.ret Tryz.results67 (.cell rfl (run_loadVarN rfl rfl (show Bx _ b4 (restO (⟨nm, tg, ml, .slice na nm.length nc, .slice ta tg.length tc, .slice ma ml.length mc, ty, cl, ttl, fam, zone, pri, wt, pt, raw, i0, i1, i2, i3, i4, i5, i6, i7, i8, i9, i10, i11, i12, i13, i14, i15, m0, m1, m2, m3, m4⟩ : Rec)).cells by assumption).row) (.tmp rfl .nil)) ⟨⟨restO (⟨nm, tg, ml, .slice na nm.length nc, .slice ta tg.length tc, .slice ma ml.length mc, ty, cl, ttl, fam, zone, pri, wt, pt, raw, i0, i1, i2, i3, i4, i5, i6, i7, i8, i9, i10, i11, i12, i13, i14, i15, m0, m1, m2, m3, m4⟩ : Rec), _, rfl, ⟨(RecAt.ext hN hE0).1, nil_at _, nil_at _⟩, wf_nums _ hw, hf.2.2.2, fun h hb => .o hk hb.1 (chk2 (Classical.not_not.1 (by assumption))).1 (chk2 (Classical.not_not.1 (by assumption))).2 hb.2.2.2.1 (Classical.not_not.1 (by assumption)) hb.2.2.2.2.2⟩, hE0⟩
set_option maxHeartbeats 400000 in
theorem rhas0 (r : Rec) (w : World) (hr : RecAt w r) (hw : WfR r) (hf : FitR r) (hk0 : kdN r.ty r.cl = 0) : Ret Tryz.prog 67 #[.agg r.cells.toArray] w fun v w' => (∃ r' e, v = .tuple #[.agg r'.cells.toArray, .int .i64 e] ∧ RecAt w' r' ∧ WfR r' ∧ r'.raw.length ≤ 70000 ∧ (e = 0 → Bare r' → DatOk r)) ∧ Ext w w' := by
  have hE0 := Ext.refl w
  have hnt := hr.2.1
  have hnm := hr.2.2
  have hN : Keep (RecAt w r) := hr
  obtain ⟨nm, tg, ml, vn, vt, vm, ty, cl, ttl, fam, zone, pri, wt, pt, raw, i0, i1, i2, i3, i4, i5, i6, i7, i8, i9, i10, i11, i12, i13, i14, i15, m0, m1, m2, m3, m4⟩ := r
  obtain ⟨⟨na, nc, hvn, _, _, _⟩, ⟨ta, tc, hvt, _, _, _⟩, ⟨ma, mc, hvm, _, _, _⟩⟩ := hr
  simp only at hvn hvt hvm hnt hnm
  subst hvn
  subst hvt
  subst hvm
  refine Ret.body Tryz.func67 rfl Tryz.ntmps67 rfl ?_
  have hzt : szN tg ≤ 4611686018427387904 := Nat.le_trans (fit_sz hf.2.1) (by decide)
  have hzm : szN ml ≤ 4611686018427387904 := Nat.le_trans (fit_sz hf.2.2.1) (by decide)
  have hk : kdN ty cl = 0 := hk0
  refine Cd.seq (Cd.region (Seg.box rfl rfl rfl (fun w3 b3 hE3 hB3 hb3 => ?_)))
  have hlt3_0 := Nat.le_trans hE0.size hb3
  replace hE0 := Ext.trans hE0 hE3
  refine Seg.alloc rfl rfl rfl (fun w4 b4 hE4 hB4 hb4 => ?_)
  have hlt4_0 := Nat.le_trans hE3.size hb4
  have hlt4_1 := Nat.lt_of_lt_of_le hB3.lt hb4
  have hlt4_2 := Nat.le_trans hE0.size hb4
  replace hE3 := Ext.trans hE3 hE4
  replace hB3 := hB3.ext hE4
  replace hE0 := Ext.trans hE0 hE4
  refine Seg.step rfl rfl (Yd.assign rfl) (Seg.nil (At.then_ (Cd.seq (Cd.region (Seg.step rfl rfl (Yd.loadN rfl rfl rfl hB3.row) (Seg.alloc rfl rfl rfl (fun w11 b11 hE11 hB11 hb11 => ?_)))))))
  have hlt11_0 := Nat.le_trans hE4.size hb11
  have hlt11_1 := Nat.lt_of_lt_of_le hB4.lt hb11
  have hlt11_2 := Nat.le_trans hE3.size hb11
  have hlt11_3 := Nat.lt_of_lt_of_le hB3.lt hb11
  have hlt11_4 := Nat.le_trans hE0.size hb11
  replace hE4 := Ext.trans hE4 hE11
  replace hB4 := hB4.ext hE11
  replace hE3 := Ext.trans hE3 hE11
  replace hB3 := hB3.ext hE11
  replace hE0 := Ext.trans hE0 hE11
  refine Seg.storeN rfl rfl rfl rfl hB11 rfl (by first | assumption | exact List.all_eq_true.1 rfl) (fun w12 hW12 hB12 => ?_)
  clear hB11
  replace hE11 := Ext.wr' hE11 hW12 (by omega)
  replace hE4 := Ext.wr' hE4 hW12 (by omega)
  replace hB4 := hB4.wr hW12 (by omega)
  replace hE3 := Ext.wr' hE3 hW12 (by omega)
  replace hB3 := hB3.wr hW12 (by omega)
  replace hE0 := Ext.wr' hE0 hW12 (by omega)
  refine Seg.nil (At.then_ (Cd.seq (Cd.seq (Cd.region (Seg.step rfl rfl (Yd.fieldAddr rfl rfl) (Seg.step rfl rfl (Yd.load1 rfl rfl (hB3.row _ _ rfl)) (Seg.step rfl rfl (Yd.fieldAddr rfl rfl) ?_)))))))
  refine Seg.step rfl rfl (Yd.load1 rfl rfl (hB3.row _ _ rfl)) ?_
  (refine Seg.call rfl rfl (own_of rfl) rfl (rkind_any ty cl _) ?_; rw [hk]; rintro _ w22 ⟨rfl, hE22⟩)
  replace hW12 := Wr.trans hW12 (Ext.wr hE22 _)
  replace hB12 := hB12.ext hE22
  replace hE11 := Ext.trans hE11 hE22
  replace hE4 := Ext.trans hE4 hE22
  replace hB4 := hB4.ext hE22
  replace hE3 := Ext.trans hE3 hE22
  replace hB3 := hB3.ext hE22
  replace hE0 := Ext.trans hE0 hE22
  refine Seg.nil (At.then_ (Cd.block (Cd.seq (Cd.region (Seg.step rfl rfl (Yd.eql rfl rfl) (Seg.step rfl rfl (Yd.assign rfl) (Seg.nil ?_)))))))
  refine At.then_ (Cd.condF rfl (Cd.seq (Cd.region (Seg.step rfl rfl (Yd.eql rfl rfl) (Seg.step rfl rfl (Yd.assign rfl) (Seg.nil (At.then_ ?_)))))))
  refine Cd.condF rfl (Cd.seq (Cd.seq (Cd.region (Seg.step rfl rfl (Yd.eql rfl rfl) (Seg.step rfl rfl (Yd.assign rfl) (Seg.nil (At.then_ ?_)))))))
  refine Cd.condF rfl (Cd.region (Seg.step rfl rfl (Yd.eql rfl rfl) (Seg.step rfl rfl (Yd.assign rfl) (Seg.nil (At.then_ (Cd.condF rfl (Cd.seq ?_)))))))
  refine Cd.region (Seg.step rfl rfl (Yd.eql rfl rfl) (Seg.step rfl rfl (Yd.assign rfl) (Seg.nil (At.then_ (Cd.condF rfl (Cd.seq (Cd.region ?_)))))))
  refine Seg.step rfl rfl (Yd.eql rfl rfl) (Seg.step rfl rfl (Yd.assign rfl) (Seg.nil (At.then_ (Cd.condF rfl (Cd.skip (At.blk (At.then_ ?_)))))))
  refine Cd.seq (Cd.region (Seg.step rfl rfl (Yd.fieldAddr rfl rfl) ?_))
  refine Seg.store1 rfl rfl rfl rfl rfl hB12 (by first | omega | (simp; done) | exact Nat.le_of_ble_eq_true rfl) (fun w74 hW74 hB74 => ?_)
  clear hB12
  replace hW12 := Wr.trans hW12 hW74
  replace hE11 := Ext.wr' hE11 hW74 (by omega)
  replace hE4 := Ext.wr' hE4 hW74 (by omega)
  replace hB4 := hB4.wr hW74 (by omega)
  replace hE3 := Ext.wr' hE3 hW74 (by omega)
  replace hB3 := hB3.wr hW74 (by omega)
  replace hE0 := Ext.wr' hE0 hW74 (by omega)
  refine Seg.nil (At.then_ (Cd.seq (Cd.seq (Cd.region (Seg.step rfl rfl (Yd.fieldAddr rfl rfl) (Seg.step rfl rfl (Yd.load1 rfl rfl (hB3.row _ _ rfl)) (Seg.step rfl rfl (Yd.lenStr rfl rfl) ?_)))))))
  refine Seg.step rfl rfl (Yd.gtr rfl rfl) (Seg.nil (At.then_ ?_))
  refine Cd.condk rfl (fun h86 => ?_) (fun h86 => ?_)
  · refine Cd.seq (Cd.region (Seg.step rfl rfl (Yd.loadN rfl rfl rfl hB74.row) (Seg.storeN rfl rfl rfl rfl hB4 rfl (by first | assumption | exact List.all_eq_true.1 rfl) (fun w91 hW91 hB91 => ?_))))
    clear hB4
    replace hB74 := hB74.wr hW91 (by omega)
    replace hE4 := Ext.wr' hE4 hW91 (by omega)
    replace hE3 := Ext.wr' hE3 hW91 (by omega)
    replace hB3 := hB3.wr hW91 (by omega)
    replace hE0 := Ext.wr' hE0 hW91 (by omega)
    refine Seg.step rfl rfl (Yd.assign rfl) (Seg.nil (At.then_ (Cd.ret (At.then_ret ?_))))
    first | exact At.ret Tryz.results67 (.cell rfl (run_loadVarN rfl rfl (show Bx _ b4 (restR (⟨nm, tg, ml, .slice na nm.length nc, .slice ta tg.length tc, .slice ma ml.length mc, ty, cl, ttl, fam, zone, pri, wt, pt, raw, i0, i1, i2, i3, i4, i5, i6, i7, i8, i9, i10, i11, i12, i13, i14, i15, m0, m1, m2, m3, m4⟩ : Rec)).cells by assumption).row) (.tmp rfl .nil)) ⟨⟨restR (⟨nm, tg, ml, .slice na nm.length nc, .slice ta tg.length tc, .slice ma ml.length mc, ty, cl, ttl, fam, zone, pri, wt, pt, raw, i0, i1, i2, i3, i4, i5, i6, i7, i8, i9, i10, i11, i12, i13, i14, i15, m0, m1, m2, m3, m4⟩ : Rec), _, rfl, RecAt.ext hN hE0, hw, Nat.zero_le _, fun h hb => absurd h (by decide)⟩, hE0⟩ | exact At.ret Tryz.results67 (.cell rfl (run_loadVarN rfl rfl (show Bx _ b4 (restR (⟨nm, tg, ml, .slice na nm.length nc, .slice ta tg.length tc, .slice ma ml.length mc, ty, cl, ttl, fam, zone, pri, wt, pt, raw, i0, i1, i2, i3, i4, i5, i6, i7, i8, i9, i10, i11, i12, i13, i14, i15, m0, m1, m2, m3, m4⟩ : Rec)).cells by assumption).row) (.tmp rfl .nil)) ⟨⟨restR (⟨nm, tg, ml, .slice na nm.length nc, .slice ta tg.length tc, .slice ma ml.length mc, ty, cl, ttl, fam, zone, pri, wt, pt, raw, i0, i1, i2, i3, i4, i5, i6, i7, i8, i9, i10, i11, i12, i13, i14, i15, m0, m1, m2, m3, m4⟩ : Rec), _, rfl, RecAt.ext hN hE0, hw, Nat.zero_le _, fun h hb => .r hk hb.1 hb.2.1 hb.2.2.1 hb.2.2.2.1 hb.2.2.2.2.1 (by omega)⟩, hE0⟩
  · refine Cd.skip (At.then_ (Cd.seq (Cd.region (Seg.step rfl rfl (Yd.loadN rfl rfl rfl hB74.row) (Seg.storeN rfl rfl rfl rfl hB4 rfl (by first | assumption | exact List.all_eq_true.1 rfl) (fun w104 hW104 hB104 => ?_))))))
    clear hB4
    replace hB74 := hB74.wr hW104 (by omega)
    replace hE4 := Ext.wr' hE4 hW104 (by omega)
    replace hE3 := Ext.wr' hE3 hW104 (by omega)
    replace hB3 := hB3.wr hW104 (by omega)
    replace hE0 := Ext.wr' hE0 hW104 (by omega)
    refine Seg.step rfl rfl (Yd.assign rfl) (Seg.nil (At.then_ (Cd.ret ?_)))
    first | exact At.ret Tryz.results67 (.cell rfl (run_loadVarN rfl rfl (show Bx _ b4 (restR (⟨nm, tg, ml, .slice na nm.length nc, .slice ta tg.length tc, .slice ma ml.length mc, ty, cl, ttl, fam, zone, pri, wt, pt, raw, i0, i1, i2, i3, i4, i5, i6, i7, i8, i9, i10, i11, i12, i13, i14, i15, m0, m1, m2, m3, m4⟩ : Rec)).cells by assumption).row) (.tmp rfl .nil)) ⟨⟨restR (⟨nm, tg, ml, .slice na nm.length nc, .slice ta tg.length tc, .slice ma ml.length mc, ty, cl, ttl, fam, zone, pri, wt, pt, raw, i0, i1, i2, i3, i4, i5, i6, i7, i8, i9, i10, i11, i12, i13, i14, i15, m0, m1, m2, m3, m4⟩ : Rec), _, rfl, RecAt.ext hN hE0, hw, Nat.zero_le _, fun h hb => absurd h (by decide)⟩, hE0⟩ | exact At.ret Tryz.results67 (.cell rfl (run_loadVarN rfl rfl (show Bx _ b4 (restR (⟨nm, tg, ml, .slice na nm.length nc, .slice ta tg.length tc, .slice ma ml.length mc, ty, cl, ttl, fam, zone, pri, wt, pt, raw, i0, i1, i2, i3, i4, i5, i6, i7, i8, i9, i10, i11, i12, i13, i14, i15, m0, m1, m2, m3, m4⟩ : Rec)).cells by assumption).row) (.tmp rfl .nil)) ⟨⟨restR (⟨nm, tg, ml, .slice na nm.length nc, .slice ta tg.length tc, .slice ma ml.length mc, ty, cl, ttl, fam, zone, pri, wt, pt, raw, i0, i1, i2, i3, i4, i5, i6, i7, i8, i9, i10, i11, i12, i13, i14, i15, m0, m1, m2, m3, m4⟩ : Rec), _, rfl, RecAt.ext hN hE0, hw, Nat.zero_le _, fun h hb => .r hk hb.1 hb.2.1 hb.2.2.1 hb.2.2.2.1 hb.2.2.2.2.1 (by omega)⟩, hE0⟩
theorem rhas_any (r : Rec) (w : World) (hr : RecAt w r) (hw : WfR r) (hf : FitR r) : Ret Tryz.prog 67 #[.agg r.cells.toArray] w fun v w' => (∃ r' e, v = .tuple #[.agg r'.cells.toArray, .int .i64 e] ∧ RecAt w' r' ∧ WfR r' ∧ r'.raw.length ≤ 70000 ∧ (e = 0 → Bare r' → DatOk r)) ∧ Ext w w' := by
  rcases kd_cases r.ty r.cl with h | h | h | h | h | h | h
  · exact rhas1 r w hr hw hf h
  · exact rhas28 r w hr hw hf h
  · exact rhas5 r w hr hw hf h
  · exact rhas12 r w hr hw hf h
  · exact rhas33 r w hr hw hf h
  · exact rhas6 r w hr hw hf h
  · exact rhas0 r w hr hw hf h
end Go.Proofs.YtahpiaaffeiadaaGreat
