/- Messages read: message.reader, message.Decode. -/
import Derived.Test.YtahpiaaffeiadaaGreatEpj
namespace Go.Proofs.YtahpiaaffeiadaaGreat
open Go Go.RowKit
theorem mtake_any (s : List UInt8) (p at' k : Nat) (w : World) (hB : Bx w p [.string ⟨s.toArray⟩, .int .i64 (at' : Int)]) (hk : at' + k ≤ s.length) (hl : s.length ≤ 1000000) :
    Ret Tryz.prog 72 #[.pointer (some ⟨p, 0, none⟩), .int .i64 (k : Int)] w fun v w' => v = .string ⟨((s.drop at').take k).toArray⟩ ∧ Wr p w w' ∧ Bx w' p [.string ⟨s.toArray⟩, .int .i64 ((at' + k : Nat) : Int)] := by
  have hE0 := Ext.refl w
  have hW0 := Ext.wr hE0 p
  refine Ret.body Tryz.func72 rfl Tryz.ntmps72 rfl ?_
  have h1 : ¬ (s.length : Int) - (at' : Int) < (k : Int) := by omega
  have h2 : NatOf ((at' : Int) + (k : Int) - (k : Int)) at' := by unfold NatOf; omega
  have h3 : NatOf ((at' : Int) + (k : Int)) (at' + k) := by unfold NatOf; omega
  have hdt : (s.take (at' + k)).drop (at' + k - k) = (s.drop at').take k := by rw [Nat.add_sub_cancel, List.drop_take]; congr 1; omega
  refine Cd.seq (Cd.region (Seg.step rfl rfl (Yd.assign rfl) (Seg.nil (At.then_ (Cd.seq (Cd.seq (Cd.quiet (by kernel_rfl) (by kernel_rfl) ?_)))))))
  refine SegQ.step rfl rfl (fun w' hw' => Yd.move rfl) (SegQ.step rfl rfl (fun w' hw' => Yd.move rfl) (SegQ.step rfl rfl (fun w' hw' => Yd.nilCheckP rfl) (SegQ.step rfl rfl (fun w' hw' => Yd.fieldAddr rfl rfl) (SegQ.step rfl rfl (fun w' hw' => Yd.load1 rfl rfl ((hB.ext hw').row _ _ rfl)) (SegQ.step rfl rfl (fun w' hw' => Yd.lenStr rfl rfl) (SegQ.step rfl rfl (fun w' hw' => Yd.move rfl) (SegQ.step rfl rfl (fun w' hw' => Yd.nilCheckP rfl) ?_)))))))
  refine SegQ.step rfl rfl (fun w' hw' => Yd.fieldAddr rfl rfl) (SegQ.step rfl rfl (fun w' hw' => Yd.load1 rfl rfl ((hB.ext hw').row _ _ rfl)) (SegQ.step rfl rfl (fun w' hw' => Yd.subI rfl rfl (by omega)) (SegQ.step rfl rfl (fun w' hw' => Yd.gtr rfl rfl) (SegQ.nil fun w24 hE24 => ?_))))
  replace hB := hB.ext hE24
  replace hE0 := Ext.trans hE0 hE24
  replace hW0 := Wr.trans hW0 (Ext.wr hE24 _)
  refine At.then_ ?_
  refine Cd.condk rfl (fun h26 => ?_) (fun h26 => ?_)
  · exfalso; omega
  · refine Cd.skip (At.then_ (Cd.seq (Cd.region (Seg.step rfl rfl (Yd.move rfl) (Seg.step rfl rfl (Yd.nilCheckP rfl) (Seg.step rfl rfl (Yd.fieldAddr rfl rfl) (Seg.step rfl rfl (Yd.load1 rfl rfl (hB.row _ _ rfl)) ?_)))))))
    refine Seg.step rfl rfl (Yd.move rfl) (Seg.step rfl rfl (Yd.addI rfl rfl (by omega)) (Seg.step rfl rfl (Yd.nilCheckP rfl) (Seg.step rfl rfl (Yd.fieldAddr rfl rfl) ?_)))
    refine Seg.store1 rfl rfl rfl rfl rfl hB (by first | omega | (simp; done) | exact Nat.le_of_ble_eq_true rfl) (fun w40 hW40 hB40 => ?_)
    clear hB
    replace hW0 := Wr.trans hW0 hW40
    refine Seg.nil (At.then_ (Cd.seq (Cd.quiet (by kernel_rfl) (by kernel_rfl) (SegQ.step rfl rfl (fun w' hw' => Yd.move rfl) (SegQ.step rfl rfl (fun w' hw' => Yd.nilCheckP rfl) (SegQ.step rfl rfl (fun w' hw' => Yd.fieldAddr rfl rfl) (SegQ.step rfl rfl (fun w' hw' => Yd.load1 rfl rfl ((hB40.ext hw').row _ _ rfl)) ?_)))))))
    refine SegQ.step rfl rfl (fun w' hw' => Yd.move rfl) (SegQ.step rfl rfl (fun w' hw' => Yd.nilCheckP rfl) (SegQ.step rfl rfl (fun w' hw' => Yd.fieldAddr rfl rfl) (SegQ.step rfl rfl (fun w' hw' => Yd.load1 rfl rfl ((hB40.ext hw').row _ _ rfl)) (SegQ.step rfl rfl (fun w' hw' => Yd.move rfl) (SegQ.step rfl rfl (fun w' hw' => Yd.subI rfl rfl (by omega)) (SegQ.step rfl rfl (fun w' hw' => Yd.move rfl) (SegQ.step rfl rfl (fun w' hw' => Yd.nilCheckP rfl) ?_)))))))
    refine SegQ.step rfl rfl (fun w' hw' => Yd.fieldAddr rfl rfl) (SegQ.step rfl rfl (fun w' hw' => Yd.load1 rfl rfl ((hB40.ext hw').row _ _ rfl)) (SegQ.step rfl rfl (fun w' hw' => Yd.slStr rfl rfl rfl rfl (NatOf.sub (NatOf.add (NatOf.cast _) (NatOf.cast _)) (NatOf.cast _) (by omega)) (NatOf.add (NatOf.cast _) (NatOf.cast _)) (by omega) (by omega)) (SegQ.step rfl rfl (fun w' hw' => Yd.assign rfl) (SegQ.nil fun w61 hE61 => ?_))))
    replace hW40 := Wr.trans hW40 (Ext.wr hE61 _)
    replace hB40 := hB40.ext hE61
    replace hW0 := Wr.trans hW0 (Ext.wr hE61 _)
    refine At.then_ (Cd.ret ?_)
    exact At.ret Tryz.results72 (.tmp rfl .nil) ⟨by rw [← hdt]; rfl, hW0, hB40⟩
theorem mcheck0_any (w : World) : Ret Tryz.prog 33 #[.int .i64 0] w fun _ w' => Ext w w' := by
  have hE0 := Ext.refl w
  refine Ret.body Tryz.func33 rfl Tryz.ntmps33 rfl (Cd.seq (Cd.region (Seg.step rfl rfl (Yd.move rfl) (Seg.step rfl rfl (Yd.neq rfl rfl) (Seg.nil (At.then_ (Cd.condF rfl ?_)))))))
  refine Cd.skip ?_
  exact At.fin Tryz.results33 .nil hE0
theorem mrecs0_any (x : Value) (w : World) : Ret Tryz.prog 32 #[x, .int .i64 0] w fun v w' => v = .slice none 0 0 ∧ Ext w w' := by
  have hE0 := Ext.refl w
  refine Ret.body Tryz.func32 rfl Tryz.ntmps32 rfl (Cd.seq (Cd.region (Seg.step rfl rfl (Yd.assign rfl) (Seg.nil (At.then_ (Cd.seq (Cd.region ?_)))))))
  refine Seg.step rfl rfl (Yd.assign rfl) (Seg.nil (At.then_ (Cd.seq (Cd.seq (Cd.region (Seg.step rfl rfl (Yd.move rfl) (Seg.step rfl rfl (Yd.move rfl) ?_)))))))
  refine Seg.nil (At.then_ (Cd.block (Cd.loop (σ := Unit) (fun _ => [(5, .slice none 0 0), (6, .int .i64 0), (7, .int .i64 0)]) (fun _ w' => Ext w w') (fun _ => 0) () (.cons rfl (.cons rfl (.cons rfl (.nil _)))) (by assumption) ?_)))
  clear hE0
  rintro _ w1 hE1
  refine Cd.seq (Cd.region (Seg.step rfl rfl (Yd.lss rfl rfl) (Seg.nil (At.then_ (Cd.seq (Cd.condF rfl (Cd.exit ?_)))))))
  refine At.then_exit (At.then_exit (At.blk_same (At.then_ (Cd.seq (Cd.region (Seg.step rfl rfl (Yd.move rfl) (Seg.step rfl rfl (Yd.assign rfl) ?_)))))))
  refine Seg.nil (At.then_ (Cd.ret ?_))
  exact At.ret Tryz.results32 (.tmp rfl .nil) ⟨rfl, hE1⟩
theorem mnum_any (s : List UInt8) (p at' k : Nat) (w : World) (hB : Bx w p [.string ⟨s.toArray⟩, .int .i64 (at' : Int)]) (hk : at' + k ≤ s.length) (hl : s.length ≤ 1000000) (h4 : k ≤ 4) :
    Ret Tryz.prog 54 #[.pointer (some ⟨p, 0, none⟩), .int .i64 (k : Int)] w fun v w' => v = .int .i64 (deB ((s.drop at').take k) : Nat) ∧ Wr p w w' ∧ Bx w' p [.string ⟨s.toArray⟩, .int .i64 ((at' + k : Nat) : Int)] := by
  refine Ret.body Tryz.func54 rfl Tryz.ntmps54 rfl ?_
  have hlk : ((s.drop at').take k).length = k := by rw [List.length_take, List.length_drop]; omega
  have htk : ((s.drop at').take k).take k = (s.drop at').take k := List.take_of_length_le (by omega)
  refine Cd.seq (Cd.region (Seg.step rfl rfl (Yd.assign rfl) (Seg.nil (At.then_ (Cd.seq (Cd.region (Seg.step rfl rfl (Yd.move rfl) ?_)))))))
  refine Seg.step rfl rfl (Yd.move rfl) ?_
  (refine Seg.call rfl rfl (own_of rfl) rfl (mtake_any s p at' k _ hB hk hl) ?_; rintro _ w14 ⟨rfl, hW14, hB14⟩; have kW : Keep (Wr p w w14) := hW14; have hBp : Bx w14 p _ := hB14; have kB := hB14.lt; have hEn := Ext.refl w14; clear hW14)
  (refine Seg.call rfl rfl (own_of rfl) rfl (enew_any ((s.drop at').take k) _) ?_; rintro _ w15 ⟨⟨b15, rfl, hb15, hB15⟩, hE15⟩; have hBn := hB15; have hbn := hb15)
  have hlt15_0 := Nat.lt_of_lt_of_le hB14.lt hb15
  have hlt15_1 := Nat.lt_of_lt_of_le hBp.lt hb15
  have hlt15_2 := Nat.le_trans hEn.size hb15
  replace hB14 := hB14.ext hE15
  replace hBp := hBp.ext hE15
  replace hEn := Ext.trans hEn hE15
  refine Seg.step rfl rfl (Yd.move rfl) ?_
  (refine Seg.call rfl rfl (own_of rfl) rfl (enum_any _ _ k _ hBn (by omega) h4) ?_; rw [htk]; rintro _ w17 ⟨rfl, hW17, hB17⟩)
  replace hE15 := Ext.wr' hE15 hW17 (by omega)
  replace hB14 := hB14.wr hW17 (by omega)
  replace hBp := hBp.wr hW17 (by omega)
  replace hEn := Ext.wr' hEn hW17 (by omega)
  refine Seg.step rfl rfl (Yd.assign rfl) (Seg.nil (At.then_ (Cd.ret ?_)))
  exact At.ret Tryz.results54 (.tmp rfl .nil) ⟨rfl, Wr.trans kW (Ext.wr hEn p), hBp⟩
theorem mname_any (s : List UInt8) (p f0 at' b0 : Nat) (n : List (List UInt8)) (w : World) (hB : Bx w p [.string ⟨s.toArray⟩, .int .i64 (at' : Int)]) (hR : Rdn s f0 at' at' n b0) (hl : s.length ≤ 65535) (hz : szN n ≤ 255) :
    Ret Tryz.prog 53 #[.pointer (some ⟨p, 0, none⟩)] w fun v w' => OwnS w' w.heap.size v n ∧ Wr p w w' ∧ Bx w' p [.string ⟨s.toArray⟩, .int .i64 (b0 : Int)] := by
  have hE0 := Ext.refl w
  have hlt := hB.lt
  refine Ret.body Tryz.func53 rfl Tryz.ntmps53 rfl (Cd.seq (Cd.region (Seg.step rfl rfl (Yd.assign rfl) (Seg.nil (At.then_ (Cd.seq (Cd.anyE (by kernel_rfl) (fun w7 hE7 => ?_))))))))
  replace hB := hB.ext hE7
  replace hE0 := Ext.trans hE0 hE7
  refine SegA.pure 0 rfl (by kernel_rfl) (by kernel_rfl) (by kernel_rfl) rfl rfl (fun _ => Yd.move rfl) (SegA.pure 1 rfl (by kernel_rfl) (by kernel_rfl) (by kernel_rfl) rfl rfl (fun _ => Yd.nilCheckP rfl) (SegA.pure 2 rfl (by kernel_rfl) (by kernel_rfl) (by kernel_rfl) rfl rfl (fun _ => Yd.fieldAddr rfl rfl) (SegA.pure 4 rfl (by kernel_rfl) (by kernel_rfl) (by kernel_rfl) rfl rfl (fun _ => Yd.move rfl) (SegA.pure 5 rfl (by kernel_rfl) (by kernel_rfl) (by kernel_rfl) rfl rfl (fun _ => Yd.nilCheckP rfl) (SegA.pure 6 rfl (by kernel_rfl) (by kernel_rfl) (by kernel_rfl) rfl rfl (fun _ => Yd.fieldAddr rfl rfl) (SegA.held 16 (SegG.take 3 rfl (by kernel_rfl) (by kernel_rfl) (by kernel_rfl) (by kernel_rfl) (by kernel_rfl) rfl rfl (fun w' hw' => Yd.load1 rfl rfl ((hB.ext hw').row _ _ rfl)) ?_)))))))
  refine SegG.take 7 rfl (by kernel_rfl) (by kernel_rfl) (by kernel_rfl) (by kernel_rfl) (by kernel_rfl) rfl rfl (fun w' hw' => Yd.load1 rfl rfl ((hB.ext hw').row _ _ rfl)) (SegG.oneSeg (o := ⟨_, _, _, _, _, _⟩) 8 rfl (by kernel_rfl) ?_)
  (refine Seg.call rfl rfl (own_of rfl) rfl (pget_any s f0 at' b0 n _ hR hl hz) ?_; have hsz18 : w.heap.size ≤ _ := Below.size (by assumption : Ext w _); rintro _ w18 ⟨⟨u, rfl, hO18⟩, hE18⟩; have kO : Keep (OwnS w18 w.heap.size u n) := own_down hO18 hsz18; have hEn := Ext.refl w18; clear hO18)
  replace hE7 := Ext.trans hE7 hE18
  replace hB := hB.ext hE18
  replace hE0 := Ext.trans hE0 hE18
  refine SegG.back rfl (by first | assumption | exact Ext.refl _) (SegG.take 9 rfl (by kernel_rfl) (by kernel_rfl) (by kernel_rfl) (by kernel_rfl) (by kernel_rfl) rfl rfl (fun w' hw' => Yd.move rfl) (SegG.take 10 rfl (by kernel_rfl) (by kernel_rfl) (by kernel_rfl) (by kernel_rfl) (by kernel_rfl) rfl rfl (fun w' hw' => Yd.extract rfl rfl) (SegG.take 11 rfl (by kernel_rfl) (by kernel_rfl) (by kernel_rfl) (by kernel_rfl) (by kernel_rfl) rfl rfl (fun w' hw' => Yd.extract rfl rfl) (SegG.take 12 rfl (by kernel_rfl) (by kernel_rfl) (by kernel_rfl) (by kernel_rfl) (by kernel_rfl) rfl rfl (fun w' hw' => Yd.extract rfl rfl) (SegG.take 13 rfl (by kernel_rfl) (by kernel_rfl) (by kernel_rfl) (by kernel_rfl) (by kernel_rfl) rfl rfl (fun w' hw' => Yd.assign rfl) (SegG.take 14 rfl (by kernel_rfl) (by kernel_rfl) (by kernel_rfl) (by kernel_rfl) (by kernel_rfl) rfl rfl (fun w' hw' => Yd.assign rfl) (SegG.take 15 rfl (by kernel_rfl) (by kernel_rfl) (by kernel_rfl) (by kernel_rfl) (by kernel_rfl) rfl rfl (fun w' hw' => Yd.assign rfl) ?_)))))))
  refine SegG.done (by kernel_rfl) (At.then_ (Cd.seq (Cd.region (Seg.step rfl rfl (Yd.move rfl) ?_))))
  (refine Seg.call rfl rfl (own_of rfl) rfl (mcheck0_any _) ?_; rintro _ w32 hE32)
  replace hE18 := Ext.trans hE18 hE32
  replace hEn := Ext.trans hEn hE32
  replace hE7 := Ext.trans hE7 hE32
  replace hB := hB.ext hE32
  replace hE0 := Ext.trans hE0 hE32
  refine Seg.nil (At.then_ (Cd.seq (Cd.region (Seg.step rfl rfl (Yd.move rfl) (Seg.step rfl rfl (Yd.move rfl) (Seg.step rfl rfl (Yd.nilCheckP rfl) (Seg.step rfl rfl (Yd.fieldAddr rfl rfl) ?_)))))))
  refine Seg.store1 rfl rfl rfl rfl rfl hB (by first | omega | (simp; done) | exact Nat.le_of_ble_eq_true rfl) (fun w41 hW41 hB41 => ?_)
  clear hB
  refine Seg.nil (At.then_ (Cd.seq (Cd.region (Seg.step rfl rfl (Yd.move rfl) (Seg.step rfl rfl (Yd.assign rfl) (Seg.nil (At.then_ ?_)))))))
  refine Cd.ret ?_
  exact At.ret Tryz.results53 (.tmp rfl .nil) ⟨own_wr (own_ext kO hEn) hW41 (own_noblk kO hlt), Wr.trans (Ext.wr hE0 p) hW41, hB41⟩
theorem Wr.far {p b : Nat} {a w w' : World} (h : Wr p a w) (g : Wr b w w') (hb : a.heap.size ≤ b) : Wr p a w' :=
  ⟨g.os.trans h.os, g.tape.trans h.tape, g.output.trans h.output, Nat.le_trans h.size g.size, fun i hi hne => (g.block i (Nat.lt_of_lt_of_le hi h.size) (fun e => by have e2 : i = b := Option.some.inj e; omega)).trans (h.block i hi hne)⟩
theorem mquest_any (s : List UInt8) (p f0 at' b0 : Nat) (n : List (List UInt8)) (w : World) (hB : Bx w p [.string ⟨s.toArray⟩, .int .i64 (at' : Int)]) (hR : Rdn s f0 at' at' n b0) (hl : s.length ≤ 65535) (hz : szN n ≤ 255) (hb0 : b0 + 4 ≤ s.length) :
    Ret Tryz.prog 31 #[.pointer (some ⟨p, 0, none⟩)] w fun v w' => (∃ u, v = .agg #[u, .int .i64 (deB ((s.drop b0).take 2) : Nat), .int .i64 (deB ((s.drop (b0 + 2)).take 2) : Nat)] ∧ OwnS w' w.heap.size u n) ∧ Wr p w w' ∧ Bx w' p [.string ⟨s.toArray⟩, .int .i64 ((b0 + 4 : Nat) : Int)] := by
  have hE0 := Ext.refl w
  have hlt := hB.lt
  refine Ret.body Tryz.func31 rfl Tryz.ntmps31 rfl (Cd.seq (Cd.region (Seg.alloc rfl rfl rfl (fun w3 b3 hE3 hB3 hb3 => ?_))))
  have hlt3_0 := Nat.lt_of_lt_of_le hB.lt hb3
  have hlt3_1 := Nat.le_trans hE0.size hb3
  replace hB := hB.ext hE3
  replace hE0 := Ext.trans hE0 hE3
  refine Seg.nil (At.then_ (Cd.seq (Cd.region (Seg.step rfl rfl (Yd.move rfl) ?_))))
  (refine Seg.call rfl rfl (own_of rfl) rfl (mname_any s p f0 at' b0 n _ (by assumption) hR hl hz) ?_; have hEw : Keep (Ext w _) := (by assumption); have hb3l := hB3.lt; have hpl := hB.lt; rintro nv w9 ⟨hO9, hW9, hB9⟩; obtain ⟨na, nc, rfl, _, _, _⟩ := own_sl hO9; have kO : Keep (OwnS w9 _ _ n) := hO9; have kW : Keep (Wr p _ w9) := hW9; have hW2 := Ext.wr (Ext.refl w9) p; clear hO9)
  replace hB3 := hB3.wr hW9 (by omega)
  refine Seg.step rfl rfl (Yd.assign rfl) (Seg.nil (At.then_ (Cd.seq (Cd.region (Seg.step rfl rfl (Yd.move rfl) ?_)))))
  (refine Seg.call rfl rfl (own_of rfl) rfl (mnum_any s p b0 2 _ (by assumption) (by omega) (by omega) (by decide)) ?_; rintro _ w16 ⟨rfl, hW16, hB16⟩; have kW2 : Keep (Wr p w9 w16) := hW16)
  replace hW9 := Wr.trans hW9 hW16
  replace hW2 := Wr.trans hW2 hW16
  replace hB3 := hB3.wr hW16 (by omega)
  refine Seg.step rfl rfl (Yd.assign rfl) (Seg.nil (At.then_ (Cd.seq (Cd.region (Seg.step rfl rfl (Yd.move rfl) (Seg.step rfl rfl (Yd.move rfl) (Seg.step rfl rfl (Yd.move rfl) ?_)))))))
  (refine Seg.call rfl rfl (own_of rfl) rfl (mnum_any s p (b0 + 2) 2 _ (by assumption) (by omega) (by omega) (by decide)) ?_; rintro _ w25 ⟨rfl, hW25, hB25⟩; have kW3 : Keep (Wr p _ w25) := hW25)
  replace hW16 := Wr.trans hW16 hW25
  replace hW9 := Wr.trans hW9 hW25
  replace hW2 := Wr.trans hW2 hW25
  replace hB3 := hB3.wr hW25 (by omega)
  refine Seg.step rfl rfl (Yd.buildT (cs := _ :: _ :: _ :: []) 3 rfl rfl rfl rfl rfl) (Seg.storeN rfl rfl rfl rfl hB3 rfl (by first | assumption | exact List.all_eq_true.1 rfl) (fun w27 hW27 hB27 => ?_))
  clear hB3
  replace hB25 := hB25.wr hW27 (by omega)
  refine Seg.nil (At.then_ (Cd.ret ?_))
  exact At.ret Tryz.results31 (.cell rfl (run_loadVarN rfl rfl hB27.row) .nil) ⟨⟨_, rfl, own_down (own_wr (own_wr kO hW16 (own_noblk kO hpl)) hW27 (own_noblk kO hb3l)) (Below.size hEw)⟩, Wr.far (Wr.trans (Ext.wr hEw p) hW9) hW27 hb3, hB25⟩
end Go.Proofs.YtahpiaaffeiadaaGreat
