/- What writes a message, with a table or without one: num, name, question, room. -/
import Derived.Test.YtahpiaaffeiadaaGreatZpt
namespace Go.Proofs.YtahpiaaffeiadaaGreat
open Go Go.RowKit
/-- The writer at p has written X; its table, if it has one, answers as F. -/
def WrV (w : World) (p base : Nat) (X : List UInt8) (po : Option Addr) (bm m : Nat) (F : List UInt8 → Option Nat) : Prop :=
  ∃ vo, Bx w p [vo, .pointer po] ∧ OwnM w base vo X ∧ TabV w po bm m F ∧ X ≠ [] ∧ p ≠ bm
theorem WrV.ext {w w' : World} {p base bm m : Nat} {X : List UInt8} {po : Option Addr} {F : List UInt8 → Option Nat} (h : WrV w p base X po bm m F) (hE : Ext w w') : WrV w' p base X po bm m F := by
  obtain ⟨vo, h1, h2, h3, h6⟩ := h
  exact ⟨vo, h1.ext hE, h2.ext hE, h3.ext hE, h6⟩
theorem OwnM.slc {w : World} {base : Nat} {v : Value} {X : List UInt8} (h : OwnM w base v X) : ∀ i, v ≠ .int .u8 i := by
  obtain ⟨g, cap, cur, fz, rfl, _⟩ := h; exact slc_int _ _ _
theorem OwnM.chg {w w' : World} {base bm m : Nat} {v : Value} {X : List UInt8} {po : Option Addr} {F : List UInt8 → Option Nat} (h : OwnM w base v X) (hT : TabV w po bm m F) (hC : Chg po bm w w') : OwnM w' base v X := by
  rcases hT with rfl | ⟨b, rfl, hT⟩
  · exact h.ext (hC.none' rfl)
  · exact h.kept hC.wr (h.offmap hT.2.1)
theorem KeepB.chg {p bm m : Nat} {w w' : World} {po : Option Addr} {F : List UInt8 → Option Nat} (hT : TabV w po bm m F) (hC : Chg po bm w w') : KeepB p w w' := by
  rcases hT with rfl | ⟨b, rfl, hT⟩
  · exact KeepB.of (hC.none' rfl)
  · exact KeepB.map hT.2.1 hC.wr
/-- What is appended, and stored back. -/
theorem WrV.put {w w1 w2 : World} {p base bm m : Nat} {X Y : List UInt8} {po : Option Addr} {F : List UInt8 → Option Nat} {vo v' : Value} (h1 : Bx w p [vo, .pointer po]) (h2 : OwnM w base vo X) (h3 : TabV w po bm m F) (hX : X ≠ []) (hp : p ≠ bm) (hY : Y ≠ [])
    (hO : OwnM w1 base v' Y) (hg : w.grownBy w1 vo.ownBlock) (hW : Wr p w1 w2) (hB : Bx w2 p [v', .pointer po]) : WrV w2 p base Y po bm m F := by
  have hvo := h2.slc
  have o1 := h2.off hX h1 hvo
  have h1' := h1.grown hg (fun e => o1 e.symm)
  have o4 := hO.off hY h1' hvo
  refine ⟨v', hB, hO.kept hW o4, ?_, hY, hp⟩
  rcases h3 with rfl | ⟨b, rfl, t1, t2, t3⟩
  · exact .inl rfl
  · have o2 := h2.off hX t1 (fun _ h => by cases h)
    have o3 := h2.offmap t2
    have n1 := bx_ne h1 t1 (fun h => by cases h)
    have t1' := t1.grown hg (fun e => o2 e.symm)
    have t2' := t2.kept hg (fun e => o3 e.symm)
    exact .inr ⟨b, rfl, t1'.wr hW (fun e => n1 e.symm), t2'.wr hW (fun e => hp e.symm), t3⟩
theorem vnum_any (a0 : World) (p base bm m k v : Nat) (X : List UInt8) (po : Option Addr) (F : List UInt8 → Option Nat) (w : World) (h : WrV w p base X po bm m F) (ha : Ext a0 w) (hp : a0.heap.size ≤ p) (hab : a0.heap.size ≤ base) (hb : base ≤ w.heap.size) (hk : k ≤ 4) (hv : v < 4611686018427387904) (hl : X.length ≤ 1000000) :
    Ret Tryz.prog 48 #[.pointer (some ⟨p, 0, none⟩), .int .i64 (k : Int), .int .i64 (v : Int)] w fun _ w' => WrV w' p base (X ++ beB k v) po bm m F ∧ Ext a0 w' ∧ w.heap.size ≤ w'.heap.size ∧ KeepB p w w' := by
  have hE0 := Ext.refl w
  obtain ⟨vo, h1, h2, h3, hX, hpb⟩ := h
  have hbl := beB_len k v
  refine Ret.body Tryz.func48 rfl Tryz.ntmps48 rfl (Cd.anyE (by kernel_rfl) (fun w4 hE4 => ?_))
  replace ha := Ext.trans ha hE4
  replace hE0 := Ext.trans hE0 hE4
  replace h1 := h1.ext hE4
  replace h2 := h2.ext hE4
  replace h3 := h3.ext hE4
  refine SegA.pure 0 rfl (by kernel_rfl) (by kernel_rfl) (by kernel_rfl) rfl rfl (fun _ => Yd.move rfl) (SegA.pure 1 rfl (by kernel_rfl) (by kernel_rfl) (by kernel_rfl) rfl rfl (fun _ => Yd.move rfl) (SegA.pure 2 rfl (by kernel_rfl) (by kernel_rfl) (by kernel_rfl) rfl rfl (fun _ => Yd.nilCheckP rfl) (SegA.pure 3 rfl (by kernel_rfl) (by kernel_rfl) (by kernel_rfl) rfl rfl (fun _ => Yd.fieldAddr rfl rfl) (SegA.pure 5 rfl (by kernel_rfl) (by kernel_rfl) (by kernel_rfl) rfl rfl (fun _ => Yd.move rfl) (SegA.pure 6 rfl (by kernel_rfl) (by kernel_rfl) (by kernel_rfl) rfl rfl (fun _ => Yd.move rfl) (SegA.held 8 (SegG.take 4 rfl (by kernel_rfl) (by kernel_rfl) (by kernel_rfl) (by kernel_rfl) (by kernel_rfl) rfl rfl (fun w' hw' => Yd.load1 rfl rfl ((h1.ext hw').row _ _ rfl)) ?_)))))))
  refine SegG.oneSeg (o := ⟨_, _, _, _, _, _⟩) 7 rfl (by kernel_rfl) ?_
  (refine Seg.call rfl rfl (own_of rfl) rfl (oput_any k v _ hk hv) ?_; rintro _ w14 ⟨rfl, hE14⟩; replace h2 := h2.ext hE14; replace h3 := TabV.ext h3 hE14)
  replace hE4 := Ext.trans hE4 hE14
  replace ha := Ext.trans ha hE14
  replace hE0 := Ext.trans hE0 hE14
  replace h1 := h1.ext hE14
  refine SegG.back rfl (by first | assumption | exact Ext.refl _) (SegG.oneSeg (o := ⟨_, _, _, _, _, _⟩) 8 rfl (by kernel_rfl) ?_)
  (refine Seg.appM (m := beB k v) rfl rfl rfl rfl rfl h2 (Nat.le_trans hb (Below.size hE0)) (by omega) (fun v17 w17 hO17 hg17 hX17 hS17 => ?_); have hB9 := WrAt.mid h1 h2 hX hg17; have hE9 := hX17 a0 ha hab; have hS9 := Nat.le_trans (Below.size hE0) hS17; have hO9 := hO17; have hg9 := hg17; have h19 := h1; have h29 := h2; have h39 := h3; have hK9 := KeepB.of (p := p) hE0; clear hX17 hO17 hg17 hE0 ha h1)
  refine SegG.end_ rfl (SegA.pure 9 rfl (by kernel_rfl) (by kernel_rfl) (by kernel_rfl) rfl rfl (fun _ => Yd.nilCheckP rfl) (SegA.pure 10 rfl (by kernel_rfl) (by kernel_rfl) (by kernel_rfl) rfl rfl (fun _ => Yd.fieldAddr rfl rfl) (SegA.oneSeg (o := ⟨_, _, _, _, _, _⟩) 11 rfl (by kernel_rfl) ?_)))
  (refine Seg.store1 (k := 0) rfl rfl rfl rfl hO9.one hB9 (by show 0 < 2; omega) (fun w22 hW22 hB22 => ?_); have hP9 : WrV w22 p base (X ++ beB k v) po bm m F := WrV.put h19 h29 h39 hX hpb (by simp [hX]) hO9 hg9 hW22 hB22; have hE8 := Ext.wr' hE9 hW22 hp; have hS8 := Nat.le_trans hS9 hW22.size; have hK8 := hK9.trans (KeepB.own h29 hX hg9 hW22))
  refine SegA.back (SegA.done (by kernel_rfl) ?_)
  exact At.fin Tryz.results48 .nil ⟨hP9, hE8, hS8, hK8⟩
/-- What a name's writing has done. -/
structure NmDone (a0 : World) (p base bm m : Nat) (X out : List UInt8) (po : Option Addr) (w w' : World) (F' : List UInt8 → Option Nat) (m' : Nat) : Prop where
  at' : WrV w' p base (X ++ out) po bm m' F'
  ext : Ext a0 w'
  size : w.heap.size ≤ w'.heap.size
  keep : KeepB p w w'
  le : m' ≤ m + 256
theorem vname_any (a0 : World) (n : List (List UInt8)) (v0 : Value) (p base bm m : Nat) (X : List UInt8) (po : Option Addr) (F : List UInt8 → Option Nat) (w : World) (h : WrV w p base X po bm m F) (hF : okF F) (ha : Ext a0 w) (hp : a0.heap.size ≤ p) (hbm : a0.heap.size ≤ bm) (hab : a0.heap.size ≤ base) (hb : base ≤ w.heap.size) (hl : X.length ≤ 900000)
    (h0 : NameAt a0 v0 n) (hc : chkN n = 0) (hm : m ≤ 1000000) :
    Ret Tryz.prog 47 #[.pointer (some ⟨p, 0, none⟩), v0] w fun v w' => v = .int .i64 0 ∧ ∃ out F' m', PutOk n X.length F out F' ∧ NmDone a0 p base bm m X out po w w' F' m' := by
  have hE0 := Ext.refl w
  obtain ⟨vo, h1, h2, h3, hX, hpm⟩ := h
  have hvo := h2.slc
  obtain ⟨ao, co, rfl, _, _, _⟩ := h2.sl
  refine Ret.body Tryz.func47 rfl Tryz.ntmps47 rfl (Cd.seq (Cd.region (Seg.step rfl rfl (Yd.assign rfl) (Seg.nil (At.then_ (Cd.seq (Cd.heldB bm 16 (by kernel_rfl) (fun w2 hE2 => ?_))))))))
  have h1 := h1.ext hE2
  have h3 := h3.ext hE2
  have ha := Ext.trans ha hE2
  have hE0 := hE2
  refine SegB.take 0 rfl (by kernel_rfl) (by kernel_rfl) (by kernel_rfl) (by kernel_rfl) (by kernel_rfl) rfl rfl (fun w' hw' => Yd.move rfl) (SegB.take 1 rfl (by kernel_rfl) (by kernel_rfl) (by kernel_rfl) (by kernel_rfl) (by kernel_rfl) rfl rfl (fun w' hw' => Yd.nilCheckP rfl) (SegB.take 2 rfl (by kernel_rfl) (by kernel_rfl) (by kernel_rfl) (by kernel_rfl) (by kernel_rfl) rfl rfl (fun w' hw' => Yd.fieldAddr rfl rfl) (SegB.take 3 rfl (by kernel_rfl) (by kernel_rfl) (by kernel_rfl) (by kernel_rfl) (by kernel_rfl) rfl rfl (fun w' hw' => Yd.load1 rfl rfl ((h1.wr hw' hpm).row _ _ rfl)) (SegB.take 4 rfl (by kernel_rfl) (by kernel_rfl) (by kernel_rfl) (by kernel_rfl) (by kernel_rfl) rfl rfl (fun w' hw' => Yd.move rfl) (SegB.take 5 rfl (by kernel_rfl) (by kernel_rfl) (by kernel_rfl) (by kernel_rfl) (by kernel_rfl) rfl rfl (fun w' hw' => Yd.move rfl) (SegB.take 6 rfl (by kernel_rfl) (by kernel_rfl) (by kernel_rfl) (by kernel_rfl) (by kernel_rfl) rfl rfl (fun w' hw' => Yd.nilCheckP rfl) (SegB.take 7 rfl (by kernel_rfl) (by kernel_rfl) (by kernel_rfl) (by kernel_rfl) (by kernel_rfl) rfl rfl (fun w' hw' => Yd.fieldAddr rfl rfl) ?_)))))))
  refine SegB.take 8 rfl (by kernel_rfl) (by kernel_rfl) (by kernel_rfl) (by kernel_rfl) (by kernel_rfl) rfl rfl (fun w' hw' => Yd.load1 rfl rfl ((h1.wr hw' hpm).row _ _ rfl)) (SegB.take 9 rfl (by kernel_rfl) (by kernel_rfl) (by kernel_rfl) (by kernel_rfl) (by kernel_rfl) rfl rfl (fun w' hw' => Yd.lenS rfl rfl) (SegB.oneSeg (o := ⟨_, _, _, _, _, _⟩) 10 rfl (by kernel_rfl) (Seg.call rfl rfl (own_of rfl) rfl (tput_any n v0 _ po bm m X.length F (Sl.ext h0 ha) hc h3 hF hm (by omega)) ?_)))
  rintro _ w3 ⟨out, F', m', rfl, hPO, hT8, hm8, hC3⟩
  have hW3 := hC3.wr
  have hol := hPO.len
  have h18 := h1.wr hW3 hpm
  have h28 : OwnM w3 base (.slice ao X.length co) X := (h2.ext hE0).chg h3 hC3
  have hE8 := Ext.wr' ha hW3 hbm
  have hS8 := Nat.le_trans (Below.size hE0) hW3.size
  have hEn := Ext.refl w3
  have hK3 := (KeepB.of (p := p) hE0).trans (KeepB.chg (p := p) h3 hC3)
  clear h1 h3 ha hE0 h2
  refine SegB.back rfl hW3 (SegB.take 11 rfl (by kernel_rfl) (by kernel_rfl) (by kernel_rfl) (by kernel_rfl) (by kernel_rfl) rfl rfl (fun w' hw' => Yd.move rfl) (SegB.take 12 rfl (by kernel_rfl) (by kernel_rfl) (by kernel_rfl) (by kernel_rfl) (by kernel_rfl) rfl rfl (fun w' hw' => Yd.extract rfl rfl) (SegB.take 13 rfl (by kernel_rfl) (by kernel_rfl) (by kernel_rfl) (by kernel_rfl) (by kernel_rfl) rfl rfl (fun w' hw' => Yd.extract rfl rfl) (SegB.take 14 rfl (by kernel_rfl) (by kernel_rfl) (by kernel_rfl) (by kernel_rfl) (by kernel_rfl) rfl rfl (fun w' hw' => Yd.assign rfl) (SegB.take 15 rfl (by kernel_rfl) (by kernel_rfl) (by kernel_rfl) (by kernel_rfl) (by kernel_rfl) rfl rfl (fun w' hw' => Yd.assign rfl) (SegB.done (by kernel_rfl) (At.then_ ?_)))))))
  refine Cd.seq (Cd.region (Seg.step rfl rfl (Yd.move rfl) (Seg.step rfl rfl (Yd.move rfl) (Seg.step rfl rfl (Yd.nilCheckP rfl) (Seg.step rfl rfl (Yd.fieldAddr rfl rfl) (Seg.step rfl rfl (Yd.load1 rfl rfl (h18.row _ _ rfl)) (Seg.step rfl rfl (Yd.move rfl) ?_)))))))
  (refine Seg.appM (m := out) rfl rfl rfl rfl rfl (h28.ext hEn) (Nat.le_trans hb (Nat.le_trans hS8 (Below.size hEn))) (by omega) (fun v37 w37 hO37 hg37 hX37 hS37 => ?_); have hB9 := WrAt.mid h18 (h28.ext hEn) hX hg37; have hE9 := hX37 a0 hE8 hab; have hS9 := Nat.le_trans (Nat.le_trans hS8 (Below.size hEn)) hS37; have hO9 := hO37; have hg9 := hg37; have h19 := h18; have h29 := h28.ext hEn; have h39 := hT8.ext hEn; have hK9 := hK3.trans (KeepB.of (p := p) hEn); clear hX37 hO37 hg37 hEn hE8 h18 hT8)
  refine Seg.step rfl rfl (Yd.nilCheckP rfl) (Seg.step rfl rfl (Yd.fieldAddr rfl rfl) ?_)
  (refine Seg.store1 (k := 0) rfl rfl rfl rfl hO9.one hB9 (by show 0 < 2; omega) (fun w40 hW40 hB40 => ?_); have hP9 : WrV w40 p base (X ++ out) po bm m' F' := WrV.put h19 h29 h39 hX hpm (by simp [hX]) hO9 hg9 hW40 hB40; have hE7 := Ext.wr' hE9 hW40 hp; have hS7 := Nat.le_trans hS9 hW40.size; have hK7 := hK9.trans (KeepB.own h29 hX hg9 hW40))
  refine Seg.nil (At.then_ (Cd.seq (Cd.region (Seg.step rfl rfl (Yd.move rfl) (Seg.step rfl rfl (Yd.assign rfl) (Seg.nil (At.then_ ?_)))))))
  refine Cd.ret ?_
  exact At.ret Tryz.results47 (.tmp rfl .nil) ⟨rfl, out, F', m', hPO, hP9, hE7, hS7, hK7, hm8⟩
theorem vroom_any (p base bm m : Nat) (e : Int) (X : List UInt8) (po : Option Addr) (F : List UInt8 → Option Nat) (w : World) (h : WrV w p base X po bm m F) (hl : X.length ≤ 1000000) : Ret Tryz.prog 18 #[.pointer (some ⟨p, 0, none⟩), .int .i64 e] w fun v w' => (∃ e', v = .int .i64 e' ∧ (e' = 0 → e = 0 ∧ X.length ≤ 65535)) ∧ Ext w w' := by
  have hE0 := Ext.refl w
  obtain ⟨vo, h1, h2, h3, hX, _⟩ := h
  obtain ⟨ao, co, rfl, _, _, _⟩ := h2.sl
  refine Ret.body Tryz.func18 rfl Tryz.ntmps18 rfl ?_
  by_cases he : e = 0
  · subst he
    refine Cd.seq (Cd.region (Seg.step rfl rfl (Yd.assign rfl) (Seg.nil (At.then_ (Cd.seq (Cd.seq (Cd.region ?_)))))))
    refine Seg.step rfl rfl (Yd.move rfl) (Seg.step rfl rfl (Yd.eql rfl rfl) (Seg.step rfl rfl (Yd.move rfl) (Seg.step rfl rfl (Yd.move rfl) (Seg.step rfl rfl (Yd.nilCheckP rfl) (Seg.step rfl rfl (Yd.fieldAddr rfl rfl) (Seg.step rfl rfl (Yd.load1 rfl rfl (h1.row _ _ rfl)) (Seg.step rfl rfl (Yd.lenS rfl rfl) ?_)))))))
    refine Seg.step rfl rfl (Yd.gtr rfl rfl) (Seg.step rfl rfl (Yd.pickT rfl rfl) (Seg.nil (At.then_ ?_)))
    refine Cd.condk rfl (fun h24 => ?_) (fun h24 => ?_)
    · refine Cd.seq (Cd.region (Seg.step rfl rfl (Yd.assign rfl) (Seg.nil (At.then_ (Cd.ret (At.then_ret ?_))))))
      first | exact At.ret Tryz.results18 (.tmp rfl .nil) ⟨⟨_, rfl, fun h => absurd h (by decide)⟩, hE0⟩ | exact At.ret Tryz.results18 (.tmp rfl .nil) ⟨⟨_, rfl, fun _ => ⟨rfl, by omega⟩⟩, hE0⟩
    · refine Cd.skip (At.then_ (Cd.seq (Cd.region (Seg.step rfl rfl (Yd.move rfl) (Seg.step rfl rfl (Yd.assign rfl) (Seg.nil (At.then_ ?_)))))))
      refine Cd.ret ?_
      first | exact At.ret Tryz.results18 (.tmp rfl .nil) ⟨⟨_, rfl, fun h => absurd h (by decide)⟩, hE0⟩ | exact At.ret Tryz.results18 (.tmp rfl .nil) ⟨⟨_, rfl, fun _ => ⟨rfl, by omega⟩⟩, hE0⟩
  · refine Cd.seq (Cd.region (Seg.step rfl rfl (Yd.assign rfl) (Seg.nil (At.then_ (Cd.seq (Cd.seq (Cd.region ?_)))))))
    refine Seg.step rfl rfl (Yd.move rfl) (Seg.step rfl rfl (Yd.eql rfl rfl) (Seg.step rfl rfl (Yd.move rfl) ?_))
    refine Seg.gsplitp rfl rfl (fun h15 => ?_) (fun h15 => ?_)
    · exfalso; omega
    · refine Seg.skip rfl rfl (Seg.skip rfl rfl (Seg.skip rfl rfl (Seg.skip rfl rfl (Seg.skip rfl rfl (Seg.skip rfl rfl (Seg.step rfl rfl (Yd.pickF rfl rfl) (Seg.nil ?_)))))))
      refine At.then_ (Cd.condF rfl (Cd.skip (At.then_ (Cd.seq (Cd.region (Seg.step rfl rfl (Yd.move rfl) (Seg.step rfl rfl (Yd.assign rfl) ?_)))))))
      refine Seg.nil (At.then_ (Cd.ret ?_))
      exact At.ret Tryz.results18 (.tmp rfl .nil) ⟨⟨_, rfl, fun h => absurd h he⟩, hE0⟩
end Go.Proofs.YtahpiaaffeiadaaGreat
