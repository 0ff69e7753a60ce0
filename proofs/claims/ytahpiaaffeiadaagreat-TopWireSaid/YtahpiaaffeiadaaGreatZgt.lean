/- Records' data read: rdata.name, getTarget, getAddr. Records' data read: getAddr, getSRV. Records' data read: getSOA. -/
import Derived.Test.YtahpiaaffeiadaaGreatZen
import Derived.Test.YtahpiaaffeiadaaGreatEmd
namespace Go.Proofs.YtahpiaaffeiadaaGreat
open Go Go.RowKit
theorem rname_any (s : List UInt8) (f0 at0 b0 : Nat) (n : List (List UInt8)) (w : World) (hR : Rdn s f0 at0 at0 n b0) (hl : s.length ≤ 65535) (hz : szN n ≤ 255) :
    Ret Tryz.prog 101 #[.string ⟨s.toArray⟩, .int .i64 (at0 : Int)] w fun v w' => (∃ u, v = .tuple #[u, .int .i64 (b0 : Int), .int .i64 0] ∧ OwnS w' w.heap.size u n) ∧ Ext w w' := by
  have hE0 := Ext.refl w
  refine Ret.body Tryz.func101 rfl Tryz.ntmps101 rfl (Cd.seq (Cd.region (Seg.step rfl rfl (Yd.assign rfl) (Seg.step rfl rfl (Yd.assign rfl) (Seg.step rfl rfl (Yd.assign rfl) (Seg.nil (At.then_ ?_)))))))
  refine Cd.seq (Cd.region (Seg.step rfl rfl (Yd.move rfl) (Seg.step rfl rfl (Yd.move rfl) ?_)))
  (refine Seg.call rfl rfl (own_of rfl) rfl (pget_any s f0 at0 b0 n _ hR hl hz) ?_; have hsz12 : w.heap.size ≤ _ := Below.size (by assumption : Ext w _); rintro _ w12 ⟨⟨u, rfl, hO12⟩, hE12⟩; obtain ⟨ua, uc, rfl, _, _, _⟩ := own_sl hO12; have kO : Keep (OwnS w12 w.heap.size _ n) := own_down hO12 hsz12; have hEn := Ext.refl w12; clear hO12)
  replace hE0 := Ext.trans hE0 hE12
  refine Seg.step rfl rfl (Yd.move rfl) (Seg.step rfl rfl (Yd.extract rfl rfl) (Seg.step rfl rfl (Yd.extract rfl rfl) (Seg.step rfl rfl (Yd.extract rfl rfl) (Seg.step rfl rfl (Yd.assign rfl) (Seg.step rfl rfl (Yd.assign rfl) (Seg.step rfl rfl (Yd.assign rfl) (Seg.nil ?_)))))))
  refine At.then_ (Cd.seq (Cd.seq (Cd.region (Seg.step rfl rfl (Yd.move rfl) (Seg.step rfl rfl (Yd.eql rfl rfl) (Seg.nil (At.then_ ?_)))))))
  refine Cd.condF rfl (Cd.skip (At.then_ (Cd.seq (Cd.region (Seg.step rfl rfl (Yd.move rfl) (Seg.step rfl rfl (Yd.move rfl) (Seg.step rfl rfl (Yd.move rfl) ?_)))))))
  refine Seg.step rfl rfl (Yd.assign rfl) (Seg.step rfl rfl (Yd.assign rfl) (Seg.step rfl rfl (Yd.assign rfl) (Seg.nil (At.then_ (Cd.ret ?_)))))
  exact At.ret Tryz.results101 (.tmp rfl (.tmp rfl (.tmp rfl .nil))) ⟨⟨_, rfl, own_ext kO hEn⟩, hE0⟩
theorem gtarget_any (s : List UInt8) (p f0 at0 : Nat) (n : List (List UInt8)) (cs : List Value) (w : World) (hB : Bx w p cs) (hc : cs.length = 33) (hR : Rdn s f0 at0 at0 n s.length) (hl : s.length ≤ 65535) (hz : szN n ≤ 255) :
    Ret Tryz.prog 91 #[.pointer (some ⟨p, 0, none⟩), .string ⟨s.toArray⟩, .int .i64 (at0 : Int)] w fun v w' => v = .int .i64 0 ∧ ∃ u, Bx w' p (cs.set 22 u) ∧ OwnS w' w.heap.size u n ∧ Wr p w w' := by
  have hE0 := Ext.refl w
  have hlt := hB.lt
  refine Ret.body Tryz.func91 rfl Tryz.ntmps91 rfl (Cd.seq (Cd.region (Seg.step rfl rfl (Yd.assign rfl) (Seg.nil (At.then_ (Cd.seq (Cd.region ?_)))))))
  refine Seg.step rfl rfl (Yd.move rfl) (Seg.step rfl rfl (Yd.move rfl) ?_)
  (refine Seg.call rfl rfl (own_of rfl) rfl (rname_any s f0 at0 s.length n _ hR hl hz) ?_; have hsz10 : w.heap.size ≤ _ := Below.size (by assumption : Ext w _); rintro _ w10 ⟨⟨u, rfl, hO10⟩, hE10⟩; obtain ⟨ua, uc, rfl, _, _, _⟩ := own_sl hO10; have kO : Keep (OwnS w10 w.heap.size _ n) := own_down hO10 hsz10; have hEn := Ext.refl w10; clear hO10)
  replace hB := hB.ext hE10
  replace hE0 := Ext.trans hE0 hE10
  refine Seg.step rfl rfl (Yd.move rfl) (Seg.step rfl rfl (Yd.extract rfl rfl) (Seg.step rfl rfl (Yd.extract rfl rfl) (Seg.step rfl rfl (Yd.extract rfl rfl) (Seg.step rfl rfl (Yd.assign rfl) (Seg.step rfl rfl (Yd.assign rfl) (Seg.step rfl rfl (Yd.assign rfl) (Seg.nil ?_)))))))
  refine At.then_ (Cd.seq (Cd.seq (Cd.region (Seg.step rfl rfl (Yd.move rfl) (Seg.step rfl rfl (Yd.neq rfl rfl) (Seg.nil (At.then_ ?_)))))))
  refine Cd.condF rfl (Cd.skip (At.then_ (Cd.seq (Cd.seq (Cd.region (Seg.step rfl rfl (Yd.move rfl) (Seg.step rfl rfl (Yd.move rfl) ?_)))))))
  refine Seg.step rfl rfl (Yd.lenStr rfl rfl) (Seg.step rfl rfl (Yd.neq rfl rfl) (Seg.nil (At.then_ ?_)))
  refine Cd.condk rfl (fun h39 => ?_) (fun h39 => ?_)
  · exfalso; omega
  · refine Cd.skip (At.then_ (Cd.seq (Cd.region (Seg.step rfl rfl (Yd.move rfl) (Seg.step rfl rfl (Yd.move rfl) (Seg.step rfl rfl (Yd.nilCheckP rfl) (Seg.step rfl rfl (Yd.fieldAddr rfl rfl) ?_)))))))
    (refine Seg.store1 (k := 22) rfl rfl rfl rfl rfl hB (by rw [hc]; decide) (fun w49 hW49 hB49 => ?_); have hW9 := hW49; have kE : Keep (Ext w _) := hE0; have hB9 := hB49; have hEm := Ext.refl w49; clear hE0 hW49)
    refine Seg.nil (At.then_ (Cd.seq (Cd.region (Seg.step rfl rfl (Yd.assign rfl) (Seg.nil (At.then_ (Cd.ret ?_)))))))
    exact At.ret Tryz.results91 (.tmp rfl .nil) ⟨rfl, _, hB9, own_wr (own_ext kO hEn) hW9 (own_noblk kO hlt), Wr.trans (Ext.wr kE p) hW9⟩
end Go.Proofs.YtahpiaaffeiadaaGreat
namespace Go.Proofs.YtahpiaaffeiadaaGreat
open Go Go.RowKit
theorem yerr_any (b : Nat) (x : Value) (w : World) (hB : Bx w b [x, .bool false]) : Ret Tryz.prog 102 #[.pointer (some ⟨b, 0, none⟩)] w fun v w' => v = .int .i64 0 ∧ Ext w w' := by
  have hE0 := Ext.refl w
  refine Ret.body Tryz.func102 rfl Tryz.ntmps102 rfl (Cd.seq (Cd.region (Seg.step rfl rfl (Yd.assign rfl) (Seg.nil (At.then_ (Cd.seq (Cd.seq ?_)))))))
  refine Cd.region (Seg.step rfl rfl (Yd.move rfl) (Seg.step rfl rfl (Yd.eqlNilP rfl rfl rfl) (Seg.nil (At.then_ (Cd.condF rfl (Cd.skip (At.then_ ?_)))))))
  refine Cd.seq (Cd.seq (Cd.region (Seg.step rfl rfl (Yd.move rfl) (Seg.step rfl rfl (Yd.nilCheckP rfl) (Seg.step rfl rfl (Yd.fieldAddr rfl rfl) (Seg.step rfl rfl (Yd.load1 rfl rfl (hB.row _ _ rfl)) (Seg.nil ?_)))))))
  refine At.then_ (Cd.condF rfl (Cd.skip (At.then_ (Cd.seq (Cd.region (Seg.step rfl rfl (Yd.assign rfl) (Seg.nil ?_)))))))
  refine At.then_ (Cd.ret ?_)
  exact At.ret Tryz.results102 (.tmp rfl .nil) ⟨rfl, hE0⟩
theorem yleft_any (b : Nat) (l : List UInt8) (w : World) (hB : Bx w b [.string ⟨l.toArray⟩, .bool false]) : Ret Tryz.prog 103 #[.pointer (some ⟨b, 0, none⟩)] w fun v w' => v = .int .i64 (l.length : Nat) ∧ Ext w w' := by
  have hE0 := Ext.refl w
  refine Ret.body Tryz.func103 rfl Tryz.ntmps103 rfl (Cd.seq (Cd.region (Seg.step rfl rfl (Yd.assign rfl) (Seg.nil (At.then_ (Cd.seq (Cd.seq ?_)))))))
  refine Cd.region (Seg.step rfl rfl (Yd.move rfl) (Seg.step rfl rfl (Yd.eqlNilP rfl rfl rfl) (Seg.nil (At.then_ (Cd.condF rfl (Cd.skip (At.then_ ?_)))))))
  refine Cd.seq (Cd.region (Seg.step rfl rfl (Yd.move rfl) (Seg.step rfl rfl (Yd.nilCheckP rfl) (Seg.step rfl rfl (Yd.fieldAddr rfl rfl) (Seg.step rfl rfl (Yd.load1 rfl rfl (hB.row _ _ rfl)) (Seg.step rfl rfl (Yd.lenStr rfl rfl) (Seg.step rfl rfl (Yd.assign rfl) ?_)))))))
  refine Seg.nil (At.then_ (Cd.ret ?_))
  exact At.ret Tryz.results103 (.tmp rfl .nil) ⟨rfl, hE0⟩
theorem yend_any (b : Nat) (w : World) (hB : Bx w b [.string ⟨([] : List UInt8).toArray⟩, .bool false]) : Ret Tryz.prog 104 #[.pointer (some ⟨b, 0, none⟩)] w fun v w' => v = .int .i64 0 ∧ Ext w w' := by
  have hE0 := Ext.refl w
  refine Ret.body Tryz.func104 rfl Tryz.ntmps104 rfl (Cd.seq (Cd.region (Seg.step rfl rfl (Yd.assign rfl) (Seg.nil (At.then_ (Cd.seq (Cd.seq ?_)))))))
  refine Cd.region (Seg.step rfl rfl (Yd.move rfl) ?_)
  (refine Seg.call rfl rfl (own_of rfl) rfl (yerr_any b _ _ hB) ?_; rintro _ w10 ⟨rfl, hE10⟩)
  replace hB := hB.ext hE10
  replace hE0 := Ext.trans hE0 hE10
  refine Seg.step rfl rfl (Yd.assign rfl) (Seg.nil (At.then_ (Cd.seq (Cd.region (Seg.step rfl rfl (Yd.move rfl) (Seg.step rfl rfl (Yd.neq rfl rfl) (Seg.nil ?_)))))))
  refine At.then_ (Cd.condF rfl (Cd.skip (At.then_ (Cd.seq (Cd.seq (Cd.region (Seg.step rfl rfl (Yd.move rfl) ?_)))))))
  (refine Seg.call rfl rfl (own_of rfl) rfl (yleft_any b [] _ hB) ?_; rintro _ w27 ⟨rfl, hE27⟩)
  replace hE10 := Ext.trans hE10 hE27
  replace hB := hB.ext hE27
  replace hE0 := Ext.trans hE0 hE27
  refine Seg.step rfl rfl (Yd.gtr rfl rfl) (Seg.nil (At.then_ (Cd.condF rfl (Cd.skip (At.then_ (Cd.seq (Cd.region ?_)))))))
  refine Seg.step rfl rfl (Yd.assign rfl) (Seg.nil (At.then_ (Cd.ret ?_)))
  exact At.ret Tryz.results104 (.tmp rfl .nil) ⟨rfl, hE0⟩
theorem gaddr_any (dt : List UInt8) (p k : Nat) (fam : Int) (cs : List Value) (w : World) (hB : Bx w p cs) (hc : cs.length = 33) (hk : dt.length = k) (hk16 : k ≤ 16) :
    Ret Tryz.prog 90 #[.pointer (some ⟨p, 0, none⟩), .string ⟨dt.toArray⟩, .int .i64 (k : Int), .int .i64 fam] w fun v w' => v = .int .i64 0 ∧ Bx w' p ((cs.set 4 (.int .i64 fam)).take 5 ++ bytesV dt ++ (cs.set 4 (.int .i64 fam)).drop (5 + k)) ∧ Wr p w w' := by
  have hE0 := Ext.refl w
  refine Ret.body Tryz.func90 rfl Tryz.ntmps90 rfl ?_
  have hki : (dt.length : Int) = (k : Int) := by omega
  refine Cd.seq (Cd.region (Seg.step rfl rfl (Yd.assign rfl) (Seg.nil (At.then_ (Cd.seq (Cd.seq (Cd.region ?_)))))))
  refine Seg.step rfl rfl (Yd.move rfl) (Seg.step rfl rfl (Yd.lenStr rfl rfl) (Seg.step rfl rfl (Yd.move rfl) (Seg.step rfl rfl (Yd.neq rfl rfl) (Seg.nil (At.then_ ?_)))))
  refine Cd.condk rfl (fun h31 => ?_) (fun h31 => ?_)
  · exfalso; omega
  refine Cd.skip (At.then_ (Cd.seq (Cd.region (Seg.step rfl rfl (Yd.move rfl) (Seg.step rfl rfl (Yd.move rfl) (Seg.step rfl rfl (Yd.nilCheckP rfl) (Seg.step rfl rfl (Yd.fieldAddr rfl rfl) ?_)))))))
  refine Seg.step rfl rfl (Yd.fieldAddr' rfl rfl) ?_
  (refine Seg.store1 (k := 4) rfl rfl rfl rfl rfl hB (by rw [hc]; decide) (fun w42 hW42 hB42 => ?_); have hW9 := hW42; have hB9 := hB42; have hEm := Ext.refl w42; clear hE0 hW42)
  refine Seg.nil (At.then_ (Cd.seq (Cd.region (Seg.step rfl rfl (Yd.move rfl) (Seg.step rfl rfl (Yd.nilCheckP rfl) (Seg.step rfl rfl (Yd.fieldAddr rfl rfl) (Seg.step rfl rfl (Yd.fieldAddr' rfl rfl) ?_)))))))
  refine Seg.step rfl rfl ((Yd.slAr (m := 15) rfl rfl)) (Seg.step rfl rfl (Yd.move rfl) ?_)
  obtain ⟨w3, hr3, hW3, hB3⟩ := run_copyS (P := Tryz.prog) (T := 3) (U := 61) (U' := 9) (lo := 5) (m := 21) (cap := 21) (s := dt) rfl rfl rfl hB9 (by omega) (by rw [List.length_set, hc]; decide) (Nat.le_refl _)
  refine Seg.step rfl rfl (Yd.of_run rfl rfl hr3) ?_
  rw [hk] at hB3
  have hEq := Ext.refl w3
  refine Seg.nil (At.then_ (Cd.seq (Cd.region (Seg.step rfl rfl (Yd.assign rfl) (Seg.nil (At.then_ (Cd.ret ?_)))))))
  exact At.ret Tryz.results90 (.tmp rfl .nil) ⟨rfl, hB3, Wr.trans hW9 hW3⟩
theorem gsrv_any (s : List UInt8) (p f0 at' : Nat) (n : List (List UInt8)) (cs : List Value) (w : World) (hB : Bx w p cs) (hc : cs.length = 33) (h6 : at' + 6 ≤ s.length) (hR : Rdn s f0 (at' + 6) (at' + 6) n s.length) (hl : s.length ≤ 65535) (hz : szN n ≤ 255) :
    Ret Tryz.prog 92 #[.pointer (some ⟨p, 0, none⟩), .string ⟨s.toArray⟩, .int .i64 (at' : Int)] w fun v w' => v = .int .i64 0 ∧ ∃ u, Bx w' p ((((cs.set 24 (.int .i64 (deB ((s.drop at').take 2) : Nat))).set 25 (.int .i64 (deB ((s.drop (at' + 2)).take 2) : Nat))).set 26 (.int .i64 (deB ((s.drop (at' + 4)).take 2) : Nat))).set 22 u) ∧ OwnS w' w.heap.size u n ∧ Wr p w w' := by
  have hE0 := Ext.refl w
  have hlt := hB.lt
  have hd2 : (s.drop at').drop 2 = s.drop (at' + 2) := List.drop_drop
  have hd4 : (s.drop (at' + 2)).drop 2 = s.drop (at' + 4) := List.drop_drop
  have hd6 : (s.drop (at' + 4)).drop 2 = s.drop (at' + 6) := List.drop_drop
  refine Ret.body Tryz.func92 rfl Tryz.ntmps92 rfl (Cd.seq (Cd.region (Seg.step rfl rfl (Yd.assign rfl) (Seg.nil (At.then_ (Cd.seq (Cd.region ?_)))))))
  refine Seg.step rfl rfl (Yd.move rfl) (Seg.step rfl rfl (Yd.move rfl) (Seg.step rfl rfl (Yd.slStrL rfl rfl rfl (NatOf.cast _) (by omega)) ?_))
  (refine Seg.call rfl rfl (own_of rfl) rfl (enew_any (s.drop at') _) ?_; rintro _ w17 ⟨⟨y, rfl, hy, hY⟩, hE17⟩; have hyp : y ≠ p := (by omega); have hyw : w.heap.size ≤ y := (by omega))
  replace hB := hB.ext hE17
  replace hE0 := Ext.trans hE0 hE17
  refine Seg.step rfl rfl (Yd.assign rfl) (Seg.nil (At.then_ (Cd.seq (Cd.region (Seg.step rfl rfl (Yd.move rfl) (Seg.step rfl rfl (Yd.move rfl) (Seg.step rfl rfl (Yd.move rfl) ?_)))))))
  refine Seg.step rfl rfl (Yd.move rfl) ?_
  (refine Seg.call rfl rfl (own_of rfl) rfl (enum_any _ _ 2 _ hY (by rw [List.length_drop]; omega) (by decide)) ?_; rw [hd2]; rintro _ w27 ⟨rfl, hW27, hY2⟩)
  replace hE17 := Ext.wr' hE17 hW27 (by omega)
  replace hB := hB.wr hW27 (by omega)
  replace hE0 := Ext.wr' hE0 hW27 (by omega)
  refine Seg.step rfl rfl (Yd.move rfl) ?_
  (refine Seg.call rfl rfl (own_of rfl) rfl (enum_any _ _ 2 _ hY2 (by rw [List.length_drop]; omega) (by decide)) ?_; rw [hd4]; rintro _ w29 ⟨rfl, hW29, hY4⟩)
  replace hW27 := Wr.trans hW27 hW29
  replace hE17 := Ext.wr' hE17 hW29 (by omega)
  replace hB := hB.wr hW29 (by omega)
  replace hE0 := Ext.wr' hE0 hW29 (by omega)
  refine Seg.step rfl rfl (Yd.move rfl) ?_
  (refine Seg.call rfl rfl (own_of rfl) rfl (enum_any _ _ 2 _ hY4 (by rw [List.length_drop]; omega) (by decide)) ?_; rw [hd6]; rintro _ w31 ⟨rfl, hW31, hY6⟩)
  replace hW29 := Wr.trans hW29 hW31
  replace hW27 := Wr.trans hW27 hW31
  replace hE17 := Ext.wr' hE17 hW31 (by omega)
  replace hB := hB.wr hW31 (by omega)
  replace hE0 := Ext.wr' hE0 hW31 (by omega)
  refine Seg.step rfl rfl (Yd.nilCheckP rfl) (Seg.step rfl rfl (Yd.fieldAddr rfl rfl) ?_)
  (refine Seg.store1 (k := 24) rfl rfl rfl rfl rfl hB (by rw [hc]; decide) (fun w34 hW34 hB34 => ?_); have hB1 := hB34; have hY6 := hY6.wr hW34 hyp; have kW1 : Keep (Wr p w w34) := Wr.trans (Ext.wr hE0 p) hW34; clear hW34)
  refine Seg.step rfl rfl (Yd.nilCheckP rfl) (Seg.step rfl rfl (Yd.fieldAddr rfl rfl) ?_)
  (refine Seg.store1 (k := 25) rfl rfl rfl rfl rfl hB1 (by rw [List.length_set, hc]; decide) (fun w37 hW37 hB37 => ?_); have hB2 := hB37; have hY6 := hY6.wr hW37 hyp; have kW2 : Keep (Wr p w w37) := Wr.trans kW1 hW37; clear hW37)
  refine Seg.step rfl rfl (Yd.nilCheckP rfl) (Seg.step rfl rfl (Yd.fieldAddr rfl rfl) ?_)
  (refine Seg.store1 (k := 26) rfl rfl rfl rfl rfl hB2 (by rw [List.length_set, List.length_set, hc]; decide) (fun w40 hW40 hB40 => ?_); have hB3 := hB40; have hY6 := hY6.wr hW40 hyp; have kW3 : Keep (Wr p w w40) := Wr.trans kW2 hW40; clear hW40; have hEn := Ext.refl w40)
  refine Seg.nil (At.then_ (Cd.seq (Cd.seq (Cd.region (Seg.step rfl rfl (Yd.move rfl) ?_)))))
  (refine Seg.call rfl rfl (own_of rfl) rfl (yerr_any y _ _ hY6) ?_; rintro _ w47 ⟨rfl, hE47⟩)
  replace hB40 := hB40.ext hE47
  replace hB3 := hB3.ext hE47
  replace hY6 := hY6.ext hE47
  replace hEn := Ext.trans hEn hE47
  refine Seg.step rfl rfl (Yd.neq rfl rfl) (Seg.nil (At.then_ (Cd.condF rfl (Cd.skip (At.then_ (Cd.seq (Cd.region ?_)))))))
  refine Seg.step rfl rfl (Yd.move rfl) (Seg.step rfl rfl (Yd.move rfl) (Seg.step rfl rfl (Yd.move rfl) (Seg.step rfl rfl (Yd.lenStr rfl rfl) (Seg.step rfl rfl (Yd.move rfl) ?_))))
  (refine Seg.call rfl rfl (own_of rfl) rfl (yleft_any y _ _ hY6) ?_; rw [List.length_drop]; rintro _ w61 ⟨rfl, hE61⟩)
  replace hE47 := Ext.trans hE47 hE61
  replace hB40 := hB40.ext hE61
  replace hB3 := hB3.ext hE61
  replace hY6 := hY6.ext hE61
  replace hEn := Ext.trans hEn hE61
  refine Seg.step rfl rfl (Yd.subI rfl rfl (by omega)) ?_
  (rw [show (s.length : Int) - ((s.length - (at' + 6) : Nat) : Int) = ((at' + 6 : Nat) : Int) by omega]; refine Seg.call rfl rfl (own_of rfl) rfl (gtarget_any s p f0 (at' + 6) n _ _ hB3 (by rw [List.length_set, List.length_set, List.length_set, hc]) hR hl hz) ?_; rintro _ w63 ⟨rfl, u, hB8, hO8, hW8⟩; have hEq := Ext.refl w63; have kO : Keep (OwnS w63 _ u n) := own_down hO8 (Nat.le_trans (show Wr p w _ from kW3).size (Below.size hEn)); have kW8 : Keep (Wr p w w63) := Wr.trans (Wr.trans kW3 (Ext.wr hEn p)) hW8; clear hO8 hW8 hB3 hY6)
  refine Seg.step rfl rfl (Yd.assign rfl) (Seg.nil (At.then_ (Cd.ret ?_)))
  exact At.ret Tryz.results92 (.tmp rfl .nil) ⟨rfl, u, hB8, own_ext kO hEq, Wr.trans kW8 (Ext.wr hEq p)⟩
end Go.Proofs.YtahpiaaffeiadaaGreat
namespace Go.Proofs.YtahpiaaffeiadaaGreat
open Go Go.RowKit
def soaV (s : List UInt8) (e : Nat) : List Value := [.int .i64 (deB ((s.drop e).take 4) : Nat), .int .i64 (deB ((s.drop (e + 4)).take 4) : Nat), .int .i64 (deB ((s.drop (e + 8)).take 4) : Nat), .int .i64 (deB ((s.drop (e + 12)).take 4) : Nat), .int .i64 (deB ((s.drop (e + 16)).take 4) : Nat)]
/-- The cells of a record, with so many numbers read. -/
def soaC (cs : List Value) (s : List UInt8) (e : Nat) : Nat → List Value
  | 0 => cs
  | i + 1 => (soaC cs s e i).set (27 + i) (.int .i64 (deB ((s.drop (e + 4 * i)).take 4) : Nat))
theorem soaC_len (cs : List Value) (s : List UInt8) (e : Nat) : ∀ i, (soaC cs s e i).length = cs.length
  | 0 => rfl
  | i + 1 => by unfold soaC; rw [List.length_set, soaC_len cs s e i]
theorem gsoa_any (s : List UInt8) (p f g at' e1 e2 : Nat) (n m : List (List UInt8)) (cs : List Value) (w : World) (hB : Bx w p cs) (hc : cs.length = 33) (hR : Rdn s f at' at' n e1) (hM : Rdn s g e1 e1 m e2) (h20 : e2 + 20 = s.length) (hl : s.length ≤ 65535) (hz : szN n ≤ 255) (hy : szN m ≤ 255) :
    Ret Tryz.prog 93 #[.pointer (some ⟨p, 0, none⟩), .string ⟨s.toArray⟩, .int .i64 (at' : Int)] w fun v w' => v = .int .i64 0 ∧ ∃ u t, Bx w' p (((soaC cs s e2 5).set 22 u).set 23 t) ∧ OwnS w' w.heap.size u n ∧ OwnS w' w.heap.size t m ∧ Wr p w w' := by
  have hE0 := Ext.refl w
  have hlt := hB.lt
  refine Ret.body Tryz.func93 rfl Tryz.ntmps93 rfl (Cd.seq (Cd.region (Seg.step rfl rfl (Yd.assign rfl) (Seg.nil (At.then_ (Cd.seq (Cd.region ?_)))))))
  refine Seg.step rfl rfl (Yd.move rfl) (Seg.step rfl rfl (Yd.move rfl) ?_)
  (refine Seg.call rfl rfl (own_of rfl) rfl (rname_any s f at' e1 n _ hR hl hz) ?_; have hsz30 : w.heap.size ≤ _ := Below.size (by assumption : Ext w _); rintro _ w30 ⟨⟨u, rfl, hO30⟩, hE30⟩; obtain ⟨ua, uc, rfl, _, _, _⟩ := own_sl hO30; have kO : Keep (OwnS w30 w.heap.size _ n) := own_down hO30 hsz30; have hEn := Ext.refl w30; clear hO30)
  replace hB := hB.ext hE30
  replace hE0 := Ext.trans hE0 hE30
  refine Seg.step rfl rfl (Yd.move rfl) (Seg.step rfl rfl (Yd.extract rfl rfl) (Seg.step rfl rfl (Yd.extract rfl rfl) (Seg.step rfl rfl (Yd.extract rfl rfl) (Seg.step rfl rfl (Yd.assign rfl) (Seg.step rfl rfl (Yd.assign rfl) (Seg.step rfl rfl (Yd.assign rfl) (Seg.nil ?_)))))))
  refine At.then_ (Cd.seq (Cd.seq (Cd.region (Seg.step rfl rfl (Yd.move rfl) (Seg.step rfl rfl (Yd.neq rfl rfl) (Seg.nil (At.then_ ?_)))))))
  refine Cd.condF rfl (Cd.skip (At.then_ (Cd.seq (Cd.region (Seg.step rfl rfl (Yd.move rfl) (Seg.step rfl rfl (Yd.move rfl) ?_))))))
  (refine Seg.call rfl rfl (own_of rfl) rfl (rname_any s g e1 e2 m _ hM hl hy) ?_; have hsz54 : w.heap.size ≤ _ := Below.size (by assumption : Ext w _); rintro _ w54 ⟨⟨t, rfl, hO54⟩, hE54⟩; obtain ⟨ta, tc, rfl, _, _, _⟩ := own_sl hO54; have kT : Keep (OwnS w54 w.heap.size _ m) := own_down hO54 hsz54; have kO2 : Keep (OwnS w54 w.heap.size (.slice ua n.length uc) n) := own_ext kO (Ext.trans hEn hE54); have hEm := Ext.refl w54; clear hO54 hEn kO)
  replace hE30 := Ext.trans hE30 hE54
  replace hB := hB.ext hE54
  replace hE0 := Ext.trans hE0 hE54
  refine Seg.step rfl rfl (Yd.move rfl) (Seg.step rfl rfl (Yd.extract rfl rfl) (Seg.step rfl rfl (Yd.extract rfl rfl) (Seg.step rfl rfl (Yd.extract rfl rfl) (Seg.step rfl rfl (Yd.assign rfl) (Seg.step rfl rfl (Yd.assign rfl) (Seg.step rfl rfl (Yd.assign rfl) (Seg.nil ?_)))))))
  refine At.then_ (Cd.seq (Cd.seq (Cd.region (Seg.step rfl rfl (Yd.move rfl) (Seg.step rfl rfl (Yd.neq rfl rfl) (Seg.nil (At.then_ ?_)))))))
  refine Cd.condF rfl (Cd.skip (At.then_ (Cd.seq (Cd.region (Seg.step rfl rfl (Yd.move rfl) (Seg.step rfl rfl (Yd.move rfl) (Seg.step rfl rfl (Yd.slStrL rfl rfl rfl (NatOf.cast _) (by omega)) ?_)))))))
  (refine Seg.call rfl rfl (own_of rfl) rfl (enew_any (s.drop e2) _) ?_; have hszy : w.heap.size ≤ _ := Below.size (by assumption : Ext w _); have kEw : Keep (Ext w _) := hE0; rintro _ w79 ⟨⟨y, rfl, hyb, hY⟩, hE79⟩; have hyw : w.heap.size ≤ y := Nat.le_trans hszy hyb; have hyp : p ≠ y := (by omega))
  replace hE54 := Ext.trans hE54 hE79
  replace hEm := Ext.trans hEm hE79
  replace hE30 := Ext.trans hE30 hE79
  replace hB := hB.ext hE79
  replace hE0 := Ext.trans hE0 hE79
  refine Seg.step rfl rfl (Yd.assign rfl) (Seg.nil (At.then_ (Cd.seq (Cd.seq (Cd.region (Seg.step rfl rfl (Yd.move rfl) (Seg.nil ?_)))))))
  refine At.then_ (Cd.block ?_)
  refine Cd.loop (σ := Nat) (fun t => [(0, .pointer (some ⟨p, 0, none⟩)), (7, .slice ua n.length uc), (9, .slice ta m.length tc), (10, .pointer (some ⟨y, 0, none⟩)), (36, .int .i64 (t : Int))])
    (fun t w' => t ≤ 5 ∧ Bx w' p (soaC cs s e2 t) ∧ Bx w' y [.string ⟨(s.drop (e2 + 4 * t)).toArray⟩, .bool false] ∧ Wr p w54 w') (fun t => 5 - t) 0 (.cons rfl (.cons rfl (.cons rfl (.cons rfl (.cons rfl (.nil _)))))) ⟨Nat.zero_le _, hB, hY, Ext.wr hEm p⟩ ?_
  clear hB hY hEm hE0
  rintro i w1 ⟨hi, hB, hY, hW⟩
  have kW : Keep (Wr p w54 w1) := hW
  clear hW
  have hEn := Ext.refl w1
  have hsl := soaC_len cs s e2
  by_cases hlt5 : i < 5
  · have hd4 : (s.drop (e2 + 4 * i)).drop 4 = s.drop (e2 + 4 * (i + 1)) := by rw [List.drop_drop]; congr 1
    have hdl : 4 ≤ (s.drop (e2 + 4 * i)).length := by rw [List.length_drop]; omega
    refine Cd.seq (Cd.region (Seg.step rfl rfl (Yd.lss rfl rfl) (Seg.nil (At.then_ (Cd.seq ?_)))))
    refine Cd.condk rfl (fun h86 => ?_) (fun h86 => ?_)
    rotate_left 1
    · exfalso; omega
    rotate_right 1
    refine Cd.skip (At.then_ (Cd.seq (Cd.block (Cd.seq (Cd.region (Seg.step rfl rfl (Yd.move rfl) (Seg.step rfl rfl (Yd.assign rfl) ?_)))))))
    refine Seg.nil (At.then_ (Cd.heldC (fun _ => True) 8 (by kernel_rfl) (fun w2 hE2 => ?_)))
    refine SegC.take 0 rfl (by kernel_rfl) (by kernel_rfl) (by kernel_rfl) (by kernel_rfl) (by kernel_rfl) rfl rfl trivial (fun w' _ => Yd.move rfl) (SegC.take 1 rfl (by kernel_rfl) (by kernel_rfl) (by kernel_rfl) (by kernel_rfl) (by kernel_rfl) rfl rfl trivial (fun w' _ => Yd.move rfl) (SegC.take 2 rfl (by kernel_rfl) (by kernel_rfl) (by kernel_rfl) (by kernel_rfl) (by kernel_rfl) rfl rfl trivial (fun w' _ => Yd.move rfl) (SegC.take 4 rfl (by kernel_rfl) (by kernel_rfl) (by kernel_rfl) (by kernel_rfl) (by kernel_rfl) rfl rfl trivial (fun w' _ => Yd.nilCheckP rfl) (SegC.take 5 rfl (by kernel_rfl) (by kernel_rfl) (by kernel_rfl) (by kernel_rfl) (by kernel_rfl) rfl rfl trivial (fun w' _ => Yd.fieldAddr rfl rfl) (SegC.oneSeg (o := ⟨_, _, _, _, _, _⟩) 3 rfl (by kernel_rfl) (Seg.call rfl rfl (own_of rfl) rfl (enum_any _ y 4 _ (hY.ext hE2) hdl (by decide)) ?_))))))
    rw [hd4]
    rintro _ w3 ⟨rfl, hW3, hY3⟩
    have hB3 := (hB.ext hE2).wr hW3 hyp
    have kW3 : Keep (Wr p w54 w3) := Wr.far (Wr.trans kW (Ext.wr (Ext.trans hEn hE2) p)) hW3 hyb
    clear hB hY kW hW3 hEn hE2
    refine Seg.nil (At.backC rfl trivial ?_)
    refine SegC.take 6 rfl (by kernel_rfl) (by kernel_rfl) (by kernel_rfl) (by kernel_rfl) (by kernel_rfl) rfl rfl trivial (fun w' _ => Yd.indexArr1' rfl rfl rfl (NatOf.cast i) hlt5) (SegC.oneSeg (o := ⟨_, _, _, _, _, _⟩) 7 rfl (by kernel_rfl) ?_)
    refine Seg.store1 (k := 27 + i) rfl rfl rfl rfl rfl hB3 (by rw [hsl, hc]; omega) (fun w4 hW4 hB4 => ?_)
    refine Seg.nil (At.backC rfl trivial (SegC.done (by kernel_rfl) ?_))
    have kW4 : Keep (Wr p w54 w4) := Wr.trans kW3 hW4
    have hY4 := hY3.wr hW4 (Ne.symm hyp)
    clear hW4 kW3 hB3 hY3
    refine At.blk (At.then_ (Cd.region (Seg.step rfl rfl (Yd.addI rfl rfl (by omega)) (Seg.step rfl rfl (Yd.move rfl) (Seg.nil ?_)))))
    exact At.round (i + 1) (.cons rfl (.cons rfl (.cons rfl (.cons rfl (.cons rfl (.nil _)))))) ⟨hlt5, hB4, hY4, kW4⟩ (Nat.sub_lt_sub_left hlt5 (Nat.lt_succ_self i))
  · obtain rfl : i = 5 := by omega
    have hdn : s.drop (e2 + 4 * 5) = [] := List.drop_of_length_le (by omega)
    rw [hdn] at hY
    refine Cd.seq (Cd.region (Seg.step rfl rfl (Yd.lss rfl rfl) (Seg.nil (At.then_ (Cd.seq (Cd.condF rfl (Cd.exit ?_)))))))
    refine At.then_exit (At.then_exit (At.blk_same (At.then_ (Cd.seq (Cd.seq (Cd.region (Seg.step rfl rfl (Yd.move rfl) ?_)))))))
    (refine Seg.call rfl rfl (own_of rfl) rfl (yend_any y _ hY) ?_; rintro _ w96 ⟨rfl, hE96⟩)
    replace hEn := Ext.trans hEn hE96
    replace hB := hB.ext hE96
    replace hY := hY.ext hE96
    refine Seg.step rfl rfl (Yd.neq rfl rfl) (Seg.nil (At.then_ (Cd.condF rfl (Cd.skip (At.then_ (Cd.seq (Cd.region ?_)))))))
    refine Seg.step rfl rfl (Yd.move rfl) (Seg.step rfl rfl (Yd.move rfl) (Seg.step rfl rfl (Yd.move rfl) (Seg.step rfl rfl (Yd.move rfl) (Seg.step rfl rfl (Yd.nilCheckP rfl) (Seg.step rfl rfl (Yd.fieldAddr rfl rfl) ?_)))))
    (refine Seg.store1 (k := 22) rfl rfl rfl rfl rfl hB (by rw [hsl, hc]; decide) (fun w111 hW111 hB111 => ?_); have hB1 := hB111; have kW1 : Keep (Wr p w54 w111) := Wr.trans (Wr.trans kW (Ext.wr hEn p)) hW111; clear hW111)
    refine Seg.step rfl rfl (Yd.nilCheckP rfl) (Seg.step rfl rfl (Yd.fieldAddr rfl rfl) ?_)
    (refine Seg.store1 (k := 23) rfl rfl rfl rfl rfl hB1 (by rw [List.length_set, hsl, hc]; decide) (fun w114 hW114 hB114 => ?_); have hB2 := hB114; have kW2 : Keep (Wr p w54 w114) := Wr.trans kW1 hW114; clear hW114; have hEm := Ext.refl w114)
    refine Seg.nil (At.then_ (Cd.seq (Cd.region (Seg.step rfl rfl (Yd.assign rfl) (Seg.nil (At.then_ (Cd.ret ?_)))))))
    exact At.ret Tryz.results93 (.tmp rfl .nil) ⟨rfl, _, _, hB2, own_wr (own_wr kO2 kW2 (own_noblk kO2 hlt)) (Ext.wr hEm p) (own_noblk kO2 hlt), own_wr (own_wr kT kW2 (own_noblk kT hlt)) (Ext.wr hEm p) (own_noblk kT hlt), Wr.trans (Wr.trans (Ext.wr kEw p) kW2) (Ext.wr hEm p)⟩
end Go.Proofs.YtahpiaaffeiadaaGreat
