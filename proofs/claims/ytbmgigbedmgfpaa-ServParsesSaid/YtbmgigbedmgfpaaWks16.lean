/- The law's own check. -/
import Derived.Test.YtbmgigbedmgfpaaSam
namespace Go.Proofs.Ytbmgigbedmgfpaa
open Go Go.RowKit
theorem works_lines : allB true [97, 32, 98, 32, 35, 32, 99, 10, 35, 32, 100, 10, 101] = [(1, [[97], [98]]), (3, [[101]])] := by decide +kernel
theorem ln_at {w : World} {base e : Nat} {v : Value} {X : List Ln} {L : List (Nat × List (List UInt8))} {p : Nat → Prop} (h : w.ownsRow base e 2 v X.length (X.flatMap lnV)) (hL : LnsOk p w X) (hX : X.map lnD = L) (hl : ∀ y ∈ L, y.2.length ≤ 1000000) : LnAt w v X :=
  ⟨own_sl h, fun x hx => ⟨(hL x hx).1, hl (lnD x) (by rw [← hX]; exact List.mem_map_of_mem hx)⟩⟩
theorem works16 (w : World) : Ret Try.prog 7 #[] w fun v w' => v = .bool true ∧ Ext w w' := by
  have hE0 := Ext.refl w
  refine Ret.body (args := []) Try.func7 rfl Try.ntmps7 rfl ?_
  refine Cd.seq ?_
  refine Cd.region ?_
  refine Seg.step rfl rfl (Yd.assign rfl) ?_
  refine Seg.nil ?_
  refine At.then_ ?_
  refine Cd.seq ?_
  refine Cd.region ?_
  (refine Seg.call rfl rfl (own_of rfl) rfl (told_any [97, 32, 98, 32, 35, 32, 99, 10, 35, 32, 100, 10, 101] true 9 _ (by decide) (by rw [works_lines]; decide)) ?_; rintro _ w8 ⟨⟨X, v, rfl, hO, hL, hX⟩, hE8⟩)
  replace hE0 := Ext.trans hE0 hE8
  refine Seg.step rfl rfl (Yd.move rfl) ?_
  refine Seg.step rfl rfl (Yd.extract rfl rfl) ?_
  refine Seg.step rfl rfl (Yd.extract rfl rfl) ?_
  refine Seg.step rfl rfl (Yd.assign rfl) ?_
  refine Seg.step rfl rfl (Yd.assign rfl) ?_
  refine Seg.nil ?_
  refine At.then_ ?_
  refine Cd.seq ?_
  refine Cd.region ?_
  refine Seg.step rfl rfl (Yd.move rfl) ?_
  refine Seg.step rfl rfl (Yd.move rfl) ?_
  refine Seg.step rfl rfl (Yd.move rfl) ?_
  refine Seg.buildSliceV rfl rfl rfl rfl rfl rfl rfl rfl rfl rfl (fun w21 b21 hE21 hB21 hb21 hO21 => ?_)
  have hlt21_0 := Nat.le_trans hE8.size hb21
  have hlt21_1 := Nat.le_trans hE0.size hb21
  replace hE8 := Ext.trans hE8 hE21
  replace hO := own_ext hO hE21
  replace hL := hL.ext hE21
  replace hE0 := Ext.trans hE0 hE21
  refine Seg.step rfl rfl (Yd.buildT (cs := _ :: _ :: []) 2 rfl rfl rfl rfl rfl) ?_
  refine Seg.buildSliceV rfl rfl rfl rfl rfl rfl rfl rfl rfl rfl (fun w23 b23 hE23 hB23 hb23 hO23 => ?_)
  have hlt23_0 := Nat.le_trans hE21.size hb23
  have hlt23_1 := Nat.lt_of_lt_of_le hB21.lt hb23
  have hlt23_2 := Nat.le_trans hE8.size hb23
  have hlt23_3 := Nat.le_trans hE0.size hb23
  replace hE21 := Ext.trans hE21 hE23
  replace hB21 := hB21.ext hE23
  replace hO21 := own_ext hO21 hE23
  replace hE8 := Ext.trans hE8 hE23
  replace hO := own_ext hO hE23
  replace hL := hL.ext hE23
  replace hE0 := Ext.trans hE0 hE23
  refine Seg.step rfl rfl (Yd.buildT (cs := _ :: _ :: []) 2 rfl rfl rfl rfl rfl) ?_
  refine Seg.buildSliceV rfl rfl rfl rfl rfl rfl rfl rfl rfl rfl (fun w25 b25 hE25 hB25 hb25 hO25 => ?_)
  have hlt25_0 := Nat.le_trans hE23.size hb25
  have hlt25_1 := Nat.lt_of_lt_of_le hB23.lt hb25
  have hlt25_2 := Nat.le_trans hE21.size hb25
  have hlt25_3 := Nat.lt_of_lt_of_le hB21.lt hb25
  have hlt25_4 := Nat.le_trans hE8.size hb25
  have hlt25_5 := Nat.le_trans hE0.size hb25
  replace hE23 := Ext.trans hE23 hE25
  replace hB23 := hB23.ext hE25
  replace hO23 := own_ext hO23 hE25
  replace hE21 := Ext.trans hE21 hE25
  replace hB21 := hB21.ext hE25
  replace hO21 := own_ext hO21 hE25
  replace hE8 := Ext.trans hE8 hE25
  replace hO := own_ext hO hE25
  replace hL := hL.ext hE25
  replace hE0 := Ext.trans hE0 hE25
  rw [works_lines] at hX
  have hA := ln_at hO hL hX (by decide)
  have hB : LnAt w25 (.slice (some ⟨b25, 0, none⟩) 2 2) [(1, .slice (some ⟨b21, 0, none⟩) 2 2, [[97], [98]]), (3, .slice (some ⟨b23, 0, none⟩) 1 1, [[101]])] :=
    ⟨own_sl hO25, fun x hx => by
      simp only [List.mem_cons, List.not_mem_nil, or_false] at hx
      rcases hx with rfl | rfl
      · exact ⟨own_sl hO21, (show (2 : Nat) ≤ 1000000 by decide)⟩
      · exact ⟨own_sl hO23, (show (1 : Nat) ≤ 1000000 by decide)⟩⟩
  have hlen : X.length ≤ 10000000 := by
    have := congrArg List.length hX
    simp at this; omega
  have hd : decide (X.map lnD = List.map lnD [((1, .slice (some ⟨b21, 0, none⟩) 2 2, [[97], [98]]) : Ln), (3, .slice (some ⟨b23, 0, none⟩) 1 1, [[101]])]) = true := decide_eq_true (by rw [hX]; rfl)
  (refine Seg.call rfl rfl (own_of rfl) rfl (same_any _ _ _ _ _ hA hB hlen) ?_; rw [hd]; rintro _ w26 ⟨rfl, hE26⟩)
  replace hE25 := Ext.trans hE25 hE26
  replace hB25 := hB25.ext hE26
  replace hO25 := own_ext hO25 hE26
  replace hE23 := Ext.trans hE23 hE26
  replace hB23 := hB23.ext hE26
  replace hO23 := own_ext hO23 hE26
  replace hE21 := Ext.trans hE21 hE26
  replace hB21 := hB21.ext hE26
  replace hO21 := own_ext hO21 hE26
  replace hE8 := Ext.trans hE8 hE26
  replace hO := own_ext hO hE26
  replace hL := hL.ext hE26
  replace hE0 := Ext.trans hE0 hE26
  replace hA := hA.ext hE26
  replace hB := hB.ext hE26
  refine Seg.step rfl rfl (Yd.pickT rfl rfl) ?_
  refine Seg.step rfl rfl (Yd.assign rfl) ?_
  refine Seg.nil ?_
  refine At.then_ ?_
  refine Cd.ret ?_
  exact At.ret Try.results7 (.tmp rfl .nil) ⟨rfl, by assumption⟩
end Go.Proofs.Ytbmgigbedmgfpaa
