/- Names read: packed.reader. -/
import Derived.Test.YtahpiaaffeiadaaGreatEme
namespace Go.Proofs.YtahpiaaffeiadaaGreat
open Go Go.RowKit
theorem roctet_any (s : List UInt8) (p at' size : Nat) (vN : Value) (w : World) (hB : Bx w p [.string ⟨s.toArray⟩, .int .i64 (at' : Int), .int .i64 (size : Int), vN]) (hat : at' < s.length) (hl : s.length ≤ 1000000) :
    Ret Tryz.prog 99 #[.pointer (some ⟨p, 0, none⟩)] w fun v w' => v = .int .i64 ((s.getD at' 0).toNat : Int) ∧ Wr p w w' ∧ Bx w' p [.string ⟨s.toArray⟩, .int .i64 ((at' + 1 : Nat) : Int), .int .i64 (size : Int), vN] := by
  have hE0 := Ext.refl w
  have v1 : (at' : Int) + 1 = ((at' + 1 : Nat) : Int) := rfl
  have v2 : ((at' + 1 : Nat) : Int) - 1 = (at' : Int) := by omega
  have hcv : IntKind.i64.wrap (((s.getD at' 0).toNat : Nat) : Int) = ((s.getD at' 0).toNat : Int) := IntWalk.i64_in _ ⟨by omega, by have := (s.getD at' 0).toNat_lt; omega⟩
  refine Ret.body Tryz.func99 rfl Tryz.ntmps99 rfl (Cd.seq (Cd.region (Seg.step rfl rfl (Yd.assign rfl) (Seg.nil (At.then_ (Cd.seq (Cd.seq ?_)))))))
  refine Cd.quiet (by kernel_rfl) (by kernel_rfl) (SegQ.step rfl rfl (fun w' hw' => Yd.move rfl) (SegQ.step rfl rfl (fun w' hw' => Yd.nilCheckP rfl) (SegQ.step rfl rfl (fun w' hw' => Yd.fieldAddr rfl rfl) (SegQ.step rfl rfl (fun w' hw' => Yd.load1 rfl rfl ((hB.ext hw').row _ _ rfl)) (SegQ.step rfl rfl (fun w' hw' => Yd.move rfl) (SegQ.step rfl rfl (fun w' hw' => Yd.nilCheckP rfl) (SegQ.step rfl rfl (fun w' hw' => Yd.fieldAddr rfl rfl) ?_)))))))
  refine SegQ.step rfl rfl (fun w' hw' => Yd.load1 rfl rfl ((hB.ext hw').row _ _ rfl)) (SegQ.step rfl rfl (fun w' hw' => Yd.lenStr rfl rfl) (SegQ.step rfl rfl (fun w' hw' => Yd.geq rfl rfl) (SegQ.nil fun w19 hE19 => ?_)))
  replace hB := hB.ext hE19
  replace hE0 := Ext.trans hE0 hE19
  refine At.then_ ?_
  refine Cd.condk rfl (fun h21 => ?_) (fun h21 => ?_)
  · exfalso; omega
  · refine Cd.skip (At.then_ (Cd.seq (Cd.region (Seg.step rfl rfl (Yd.move rfl) (Seg.step rfl rfl (Yd.nilCheckP rfl) (Seg.step rfl rfl (Yd.fieldAddr rfl rfl) (Seg.step rfl rfl (Yd.load1 rfl rfl (hB.row _ _ rfl)) ?_)))))))
    refine Seg.step rfl rfl (Yd.addI rfl rfl (by omega)) (Seg.step rfl rfl (Yd.nilCheckP rfl) (Seg.step rfl rfl (Yd.fieldAddr rfl rfl) ?_))
    refine Seg.store1 rfl rfl rfl rfl rfl hB (by first | omega | (simp; done) | exact Nat.le_of_ble_eq_true rfl) (fun w34 hW34 hB34 => ?_)
    clear hB
    refine Seg.nil (At.then_ (Cd.seq (Cd.quiet (by kernel_rfl) (by kernel_rfl) (SegQ.step rfl rfl (fun w' hw' => Yd.move rfl) (SegQ.step rfl rfl (fun w' hw' => Yd.nilCheckP rfl) (SegQ.step rfl rfl (fun w' hw' => Yd.fieldAddr rfl rfl) (SegQ.step rfl rfl (fun w' hw' => Yd.load1 rfl rfl ((hB34.ext hw').row _ _ rfl)) ?_)))))))
    refine SegQ.step rfl rfl (fun w' hw' => Yd.move rfl) (SegQ.step rfl rfl (fun w' hw' => Yd.nilCheckP rfl) (SegQ.step rfl rfl (fun w' hw' => Yd.fieldAddr rfl rfl) (SegQ.step rfl rfl (fun w' hw' => Yd.load1 rfl rfl ((hB34.ext hw').row _ _ rfl)) (SegQ.step rfl rfl (fun w' hw' => Yd.subI rfl rfl (by omega)) (SegQ.step rfl rfl (fun w' hw' => Yd.indexStr rfl rfl rfl (NatOf.sub (NatOf.add (NatOf.cast _) (NatOf.cast 1)) (NatOf.cast 1) (by omega)) (by omega)) (SegQ.step rfl rfl (fun w' hw' => Yd.convI rfl rfl rfl) (SegQ.step rfl rfl (fun w' hw' => Yd.assign rfl) ?_)))))))
    refine SegQ.nil fun w51 hE51 => ?_
    replace hW34 := Wr.trans hW34 (Ext.wr hE51 _)
    replace hB34 := hB34.ext hE51
    refine At.then_ (Cd.ret ?_)
    exact At.ret Tryz.results99 (.tmp rfl .nil) ⟨by show Value.int _ _ = _; rw [Nat.add_sub_cancel, hcv], (Ext.wr (by assumption : Ext w w19) p).trans hW34, hB34⟩
theorem At.backB {P : Program} {n : Fm} {ops : Array Oper} {Q : Exit → Act → World → Prop} {b z fuel : Nat} {listed : Array Bool} {fr : Fr} {w w' : World} {i : Nat} (hz : Nat.blt i z = true) (hE : Wr b w w') (h : SegB P n ops Q b z fuel listed fr w') : At n (BPost P ops Q b z fuel listed i w) .normal fr w' := .mk fun a ha =>
  ⟨rfl, by rw [if_pos (show i < z from Nat.le_of_ble_eq_true hz)]; exact ⟨hE, h.out a ha⟩⟩
theorem own_one {w : World} {base e k m : Nat} {v : Value} {cs : List Value} (h : w.ownsRow base e k v m cs) : v.oneCell' = true := by
  rcases h.2 with ⟨rfl, _⟩ | ⟨g, cap, cur, rfl, _⟩ <;> rfl
theorem At.endB {P : Program} {n : Fm} {ops : Array Oper} {Q : Exit → Act → World → Prop} {b z fuel : Nat} {listed : Array Bool} {fr : Fr} {w w' : World} {i : Nat} (hz : Nat.ble z i = true) (h : SegA P n ops Q fuel listed fr w') : At n (BPost P ops Q b z fuel listed i w) .normal fr w' := .mk fun a ha =>
  ⟨rfl, by rw [if_neg (show ¬ i < z from Nat.not_lt.2 (Nat.le_of_ble_eq_true hz))]; exact h.out a ha⟩
theorem rlabel_any (a0 : World) (s : List UInt8) (p base at' size k : Nat) (vN : Value) (N : List (List UInt8)) (w : World) (hB : Bx w p [.string ⟨s.toArray⟩, .int .i64 (at' : Int), .int .i64 (size : Int), vN]) (hO : OwnS w base vN N) (ha : Ext a0 w) (hp : a0.heap.size ≤ p) (hab : a0.heap.size ≤ base) (hb : base ≤ w.heap.size) (hoff : vN.ownBlock ≠ some p)
    (hk : at' + k ≤ s.length) (hl : s.length ≤ 1000000) (hsz : size + (k + 1) ≤ 255) (hN : N.length ≤ 1000) :
    Ret Tryz.prog 100 #[.pointer (some ⟨p, 0, none⟩), .int .i64 (k : Int)] w fun _ w' => ∃ v', Bx w' p [.string ⟨s.toArray⟩, .int .i64 ((at' + k : Nat) : Int), .int .i64 ((size + (k + 1) : Nat) : Int), v'] ∧ OwnS w' base v' (N ++ [(s.drop at').take k]) ∧ v'.ownBlock ≠ some p ∧ Ext a0 w' ∧ w.heap.size ≤ w'.heap.size := by
  have hE0 := Ext.refl w
  obtain ⟨ao, c, rfl, _, _, _⟩ := own_sl hO
  refine Ret.body Tryz.func100 rfl Tryz.ntmps100 rfl ?_
  have hgx : ∃ g, (∀ r, (Value.slice ao N.length c).ownBlock = some r → r = g) ∧ g ≠ p := by
    cases ao with
    | none => exact ⟨p + 1, fun r h => (by cases h), by omega⟩
    | some a => exact ⟨a.block, fun r h => (by cases h; rfl), fun e => hoff (by rw [← e]; rfl)⟩
  obtain ⟨g, hg1, hgp⟩ := hgx
  refine Cd.seq (Cd.seq (Cd.quiet (by kernel_rfl) (by kernel_rfl) (SegQ.step rfl rfl (fun w' hw' => Yd.move rfl) (SegQ.step rfl rfl (fun w' hw' => Yd.move rfl) (SegQ.step rfl rfl (fun w' hw' => Yd.nilCheckP rfl) (SegQ.step rfl rfl (fun w' hw' => Yd.fieldAddr rfl rfl) (SegQ.step rfl rfl (fun w' hw' => Yd.load1 rfl rfl ((hB.ext hw').row _ _ rfl)) ?_)))))))
  refine SegQ.step rfl rfl (fun w' hw' => Yd.lenStr rfl rfl) (SegQ.step rfl rfl (fun w' hw' => Yd.move rfl) (SegQ.step rfl rfl (fun w' hw' => Yd.nilCheckP rfl) (SegQ.step rfl rfl (fun w' hw' => Yd.fieldAddr rfl rfl) (SegQ.step rfl rfl (fun w' hw' => Yd.load1 rfl rfl ((hB.ext hw').row _ _ rfl)) (SegQ.step rfl rfl (fun w' hw' => Yd.subI rfl rfl (by omega)) (SegQ.step rfl rfl (fun w' hw' => Yd.gtr rfl rfl) (SegQ.nil fun w17 hE17 => ?_)))))))
  replace ha := Ext.trans ha hE17
  replace hE0 := Ext.trans hE0 hE17
  replace hB := hB.ext hE17
  refine At.then_ ?_
  refine Cd.condk rfl (fun h19 => ?_) (fun h19 => ?_)
  · exfalso; omega
  refine Cd.skip (At.then_ (Cd.seq (Cd.heldB g 22 (by kernel_rfl) (fun w2 hE2 => ?_))))
  have hB := hB.ext hE2
  have ha := Ext.trans ha hE2
  have hE0 := Ext.trans hE0 hE2
  refine SegB.take 0 rfl (by kernel_rfl) (by kernel_rfl) (by kernel_rfl) (by kernel_rfl) (by kernel_rfl) rfl rfl (fun w' hw' => Yd.move rfl) (SegB.take 1 rfl (by kernel_rfl) (by kernel_rfl) (by kernel_rfl) (by kernel_rfl) (by kernel_rfl) rfl rfl (fun w' hw' => Yd.move rfl) (SegB.take 2 rfl (by kernel_rfl) (by kernel_rfl) (by kernel_rfl) (by kernel_rfl) (by kernel_rfl) rfl rfl (fun w' hw' => Yd.nilCheckP rfl) (SegB.take 3 rfl (by kernel_rfl) (by kernel_rfl) (by kernel_rfl) (by kernel_rfl) (by kernel_rfl) rfl rfl (fun w' hw' => Yd.fieldAddr rfl rfl) (SegB.take 4 rfl (by kernel_rfl) (by kernel_rfl) (by kernel_rfl) (by kernel_rfl) (by kernel_rfl) rfl rfl (fun w' hw' => Yd.load1 rfl rfl ((hB.wr hw' hgp.symm).row _ _ rfl)) (SegB.take 5 rfl (by kernel_rfl) (by kernel_rfl) (by kernel_rfl) (by kernel_rfl) (by kernel_rfl) rfl rfl (fun w' hw' => Yd.move rfl) (SegB.take 6 rfl (by kernel_rfl) (by kernel_rfl) (by kernel_rfl) (by kernel_rfl) (by kernel_rfl) rfl rfl (fun w' hw' => Yd.nilCheckP rfl) (SegB.take 7 rfl (by kernel_rfl) (by kernel_rfl) (by kernel_rfl) (by kernel_rfl) (by kernel_rfl) rfl rfl (fun w' hw' => Yd.fieldAddr rfl rfl) ?_)))))))
  refine SegB.take 8 rfl (by kernel_rfl) (by kernel_rfl) (by kernel_rfl) (by kernel_rfl) (by kernel_rfl) rfl rfl (fun w' hw' => Yd.load1 rfl rfl ((hB.wr hw' hgp.symm).row _ _ rfl)) (SegB.take 9 rfl (by kernel_rfl) (by kernel_rfl) (by kernel_rfl) (by kernel_rfl) (by kernel_rfl) rfl rfl (fun w' hw' => Yd.move rfl) (SegB.take 10 rfl (by kernel_rfl) (by kernel_rfl) (by kernel_rfl) (by kernel_rfl) (by kernel_rfl) rfl rfl (fun w' hw' => Yd.nilCheckP rfl) (SegB.take 11 rfl (by kernel_rfl) (by kernel_rfl) (by kernel_rfl) (by kernel_rfl) (by kernel_rfl) rfl rfl (fun w' hw' => Yd.fieldAddr rfl rfl) (SegB.take 12 rfl (by kernel_rfl) (by kernel_rfl) (by kernel_rfl) (by kernel_rfl) (by kernel_rfl) rfl rfl (fun w' hw' => Yd.load1 rfl rfl ((hB.wr hw' hgp.symm).row _ _ rfl)) (SegB.take 13 rfl (by kernel_rfl) (by kernel_rfl) (by kernel_rfl) (by kernel_rfl) (by kernel_rfl) rfl rfl (fun w' hw' => Yd.move rfl) (SegB.take 14 rfl (by kernel_rfl) (by kernel_rfl) (by kernel_rfl) (by kernel_rfl) (by kernel_rfl) rfl rfl (fun w' hw' => Yd.nilCheckP rfl) (SegB.take 15 rfl (by kernel_rfl) (by kernel_rfl) (by kernel_rfl) (by kernel_rfl) (by kernel_rfl) rfl rfl (fun w' hw' => Yd.fieldAddr rfl rfl) ?_)))))))
  refine SegB.take 16 rfl (by kernel_rfl) (by kernel_rfl) (by kernel_rfl) (by kernel_rfl) (by kernel_rfl) rfl rfl (fun w' hw' => Yd.load1 rfl rfl ((hB.wr hw' hgp.symm).row _ _ rfl)) (SegB.take 17 rfl (by kernel_rfl) (by kernel_rfl) (by kernel_rfl) (by kernel_rfl) (by kernel_rfl) rfl rfl (fun w' hw' => Yd.move rfl) (SegB.take 18 rfl (by kernel_rfl) (by kernel_rfl) (by kernel_rfl) (by kernel_rfl) (by kernel_rfl) rfl rfl (fun w' hw' => Yd.addI rfl rfl (by omega)) ?_))
  refine SegB.take 19 rfl (by kernel_rfl) (by kernel_rfl) (by kernel_rfl) (by kernel_rfl) (by kernel_rfl) rfl rfl (fun w' hw' => Yd.slStr rfl rfl rfl rfl (NatOf.cast at') (by unfold NatOf; omega : NatOf _ (at' + k)) (by omega) (by omega)) ?_
  refine SegB.oneSeg (o := ⟨_, _, _, _, _, _⟩) 20 rfl (by kernel_rfl) (Seg.buildSliceV rfl rfl rfl rfl rfl rfl rfl rfl rfl rfl (fun w20 b20 hE20 hB20 hb20 hO20 => ?_))
  have hlt20_0 := Nat.le_trans hE2.size hb20
  have hlt20_1 := Nat.lt_of_lt_of_le hB.lt hb20
  have hlt20_2 := Nat.le_trans ha.size hb20
  have hlt20_3 := Nat.le_trans hE0.size hb20
  replace hE2 := Ext.trans hE2 hE20
  replace hB := hB.ext hE20
  replace ha := Ext.trans ha hE20
  replace hE0 := Ext.trans hE0 hE20
  refine Seg.nil (At.backB rfl (Ext.wr (by assumption) g) (SegB.oneSeg (o := ⟨_, _, _, _, _, _⟩) 21 rfl (by kernel_rfl) ?_))
  have hO20b := own_ext hO (by assumption : Ext w w20)
  have hEk : Keep (Ext a0 w20) := by assumption
  (refine Seg.appS (m := [(s.take (at' + k)).drop at']) rfl rfl rfl rfl rfl hO20b (own_sl (by assumption)) (Nat.le_trans hb (Below.size (by assumption : Ext w w20))) (by show _ + 1 ≤ _; omega) (fun v21 w21 hO21 hG21 hX21 hS21 hA21 => ?_))
  refine Seg.nil ?_
  have hWg : Wr g w20 w21 := ⟨hG21.os, hG21.tape, hG21.output, hG21.size, fun r hr hne => hG21.block r hr (fun e => hne (by rw [hg1 r e.symm]))⟩
  have hB21 := hB.wr hWg hgp.symm
  have hE21 := hX21 a0 hEk hab
  refine At.backB rfl hWg (SegB.oneSeg (o := ⟨_, _, _, _, _, _⟩) 22 rfl (by kernel_rfl) (Seg.step rfl rfl (Yd.nilCheckP rfl) (Seg.nil (At.endB rfl ?_))))
  have hv21 : v21.ownBlock ≠ some p := by
    rcases hA21 with h | h
    · rw [h]; exact hoff
    · rw [h]; intro e; cases e; exact absurd hB.lt (Nat.lt_irrefl _)
  clear hX21 hG21 hB hO20b
  have kO : Keep (OwnS w21 base v21 (N ++ [(s.take (at' + k)).drop at'])) := hO21
  have hsn := hS21
  have hdt : (s.take (at' + k)).drop at' = (s.drop at').take k := by rw [List.drop_take]; congr 1; omega
  have hs20 : w.heap.size ≤ w20.heap.size := Below.size (by assumption)
  refine SegA.pure 23 rfl (by kernel_rfl) (by kernel_rfl) (by kernel_rfl) rfl rfl (fun _ => Yd.fieldAddr rfl rfl) (SegA.oneSeg (o := ⟨_, _, _, _, _, _⟩) 24 rfl (by kernel_rfl) ?_)
  (refine Seg.store1 (k := 3) rfl rfl rfl rfl (own_one kO) hB21 (by show 3 < 4; omega) (fun w24 hW24 hB24 => ?_))
  refine SegA.back (SegA.done (by kernel_rfl) (At.then_ (Cd.seq (Cd.region (Seg.step rfl rfl (Yd.move rfl) (Seg.step rfl rfl (Yd.nilCheckP rfl) (Seg.step rfl rfl (Yd.fieldAddr rfl rfl) ?_)))))))
  refine Seg.step rfl rfl (Yd.load1 rfl rfl (hB24.row _ _ rfl)) (Seg.step rfl rfl (Yd.move rfl) (Seg.step rfl rfl (Yd.addI rfl rfl (by omega)) (Seg.step rfl rfl (Yd.nilCheckP rfl) (Seg.step rfl rfl (Yd.fieldAddr rfl rfl) ?_))))
  refine Seg.store1 rfl rfl rfl rfl rfl hB24 (by first | omega | (simp; done) | exact Nat.le_of_ble_eq_true rfl) (fun w38 hW38 hB38 => ?_)
  clear hB24
  replace hW24 := Wr.trans hW24 hW38
  refine Seg.nil (At.then_ (Cd.seq (Cd.region (Seg.step rfl rfl (Yd.move rfl) (Seg.step rfl rfl (Yd.nilCheckP rfl) (Seg.step rfl rfl (Yd.fieldAddr rfl rfl) (Seg.step rfl rfl (Yd.load1 rfl rfl (hB38.row _ _ rfl)) ?_)))))))
  refine Seg.step rfl rfl (Yd.move rfl) (Seg.step rfl rfl (Yd.addI rfl rfl (by omega)) (Seg.step rfl rfl (Yd.addI rfl rfl (by omega)) (Seg.step rfl rfl (Yd.nilCheckP rfl) (Seg.step rfl rfl (Yd.fieldAddr rfl rfl) ?_))))
  refine Seg.store1 rfl rfl rfl rfl rfl hB38 (by first | omega | (simp; done) | exact Nat.le_of_ble_eq_true rfl) (fun w52 hW52 hB52 => ?_)
  clear hB38
  replace hW38 := Wr.trans hW38 hW52
  replace hW24 := Wr.trans hW24 hW52
  refine Seg.nil (At.then_ (Cd.seq (Cd.region (Seg.step rfl rfl (Yd.move rfl) (Seg.step rfl rfl (Yd.nilCheckP rfl) (Seg.step rfl rfl (Yd.fieldAddr rfl rfl) (Seg.step rfl rfl (Yd.load1 rfl rfl (hB52.row _ _ rfl)) ?_)))))))
  refine Seg.step rfl rfl (Yd.gtr rfl rfl) (Seg.nil (At.then_ ?_))
  refine Cd.condk rfl (fun h64 => ?_) (fun h64 => ?_)
  · exfalso; omega
  · refine Cd.skip ?_
    exact At.fin Tryz.results100 .nil ⟨v21, hB52, by rw [← hdt]; exact World.ownsRow.kept kO hW24 (.inr hv21), hv21, Ext.wr' hE21 hW24 hp, Nat.le_trans hs20 (Nat.le_trans hS21 hW24.size)⟩
