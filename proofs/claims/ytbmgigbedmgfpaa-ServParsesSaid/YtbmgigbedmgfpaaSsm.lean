/- Lists of services compared; joined texts. -/
import Derived.Test.YtbmgigbedmgfpaaWks20
import Derived.Test.YtbmgigbedmgfpaaLjn
namespace Go.Proofs.Ytbmgigbedmgfpaa
open Go Go.RowKit
theorem prsL_append (A B : List (Nat × List (List UInt8))) : prsL (A ++ B) = prsL A ++ prsL B := by simp [prsL]
theorem prsL_shift (k : Nat) : ∀ B : List (Nat × List (List UInt8)), prsL (B.map (shift k)) = prsL B
  | [] => rfl
  | y :: B => by
    have ih := prsL_shift k B
    unfold prsL at *
    rw [List.map_cons, List.filterMap_cons, List.filterMap_cons, ih]
    rfl
theorem prs_join (a b : List UInt8) : prsB (a ++ [10] ++ b) = prsB a ++ prsB b := by
  have h : a ++ [10] ++ b = a ++ 10 :: b := by simp
  unfold prsB
  rw [h, all_join, prsL_append, prsL_shift]
theorem find_app (n : List UInt8) (pr : Int) (B : List Svc) : ∀ A : List Svc, findB n pr (A ++ B) = if (findB n pr A).2 = true then findB n pr A else findB n pr B
  | [] => by simp [findB]
  | s :: A => by
    have ih := find_app n pr B A
    rw [List.cons_append, findB, findB]
    split
    · simp
    · exact ih
theorem svc_eq (s t : Svc) : s = t ↔ s.names = t.names ∧ s.port = t.port ∧ s.proto = t.proto := by
  cases s; cases t; simp
noncomputable instance svcDec : DecidableEq Svc := fun a b => Classical.propDecidable _
set_option maxHeartbeats 1000000 in
theorem svsame_any (X Y : List Sv) (v0 v1 : Value) (w : World) (h0 : SvAt w v0 X) (h1 : SvAt w v1 Y) (hl : X.length ≤ 10000000) :
    Ret Try.prog 12 #[v0, v1] w fun v w' => v = .bool (decide (X.map Prod.snd = Y.map Prod.snd)) ∧ Ext w w' := by
  have hE0 := Ext.refl w
  have hA := h0
  have hB := h1
  obtain ⟨⟨ao, c, rfl, -, -, -⟩, -⟩ := h0
  obtain ⟨⟨ao', c', rfl, -, -, -⟩, -⟩ := h1
  refine Ret.body Try.func12 rfl Try.ntmps12 rfl ?_
  by_cases hlm : X.length = Y.length
  · refine Cd.seq ?_
    refine Cd.region ?_
    refine Seg.step rfl rfl (Yd.assign rfl) ?_
    refine Seg.nil ?_
    refine At.then_ ?_
    refine Cd.seq ?_
    refine Cd.seq ?_
    refine Cd.region ?_
    refine Seg.step rfl rfl (Yd.move rfl) ?_
    refine Seg.step rfl rfl (Yd.lenS rfl rfl) ?_
    refine Seg.step rfl rfl (Yd.move rfl) ?_
    refine Seg.step rfl rfl (Yd.lenS rfl rfl) ?_
    refine Seg.step rfl rfl (Yd.neq rfl rfl) ?_
    refine Seg.nil ?_
    refine At.then_ ?_
    refine Cd.condk rfl (fun h16 => ?_) (fun h16 => ?_)
    · exfalso; omega
    refine Cd.skip ?_
    refine At.then_ ?_
    refine Cd.seq ?_
    refine Cd.seq ?_
    refine Cd.region ?_
    refine Seg.step rfl rfl (Yd.assign rfl) ?_
    refine Seg.nil ?_
    refine At.then_ ?_
    refine Cd.block ?_
    refine Cd.loop (σ := Nat) (fun s => [(0, .slice ao X.length c), (1, .slice ao' Y.length c'), (4, .bool false), (5, .int .i64 (s : Int))])
      (fun s w' => s ≤ X.length ∧ (X.map Prod.snd).take s = (Y.map Prod.snd).take s ∧ Ext w w') (fun s => X.length - s) 0 (.cons rfl (.cons rfl (.cons rfl (.cons rfl (.nil _))))) ⟨Nat.zero_le _, rfl, by assumption⟩ ?_
    clear hE0
    intro i w0 ⟨hi, hT, hE0⟩
    have hA0 := hA.ext hE0
    have hB0 := hB.ext hE0
    by_cases hlt : i < X.length
    · obtain ⟨x, hx⟩ : ∃ x, X[i]? = some x := ⟨_, List.getElem?_eq_getElem hlt⟩
      obtain ⟨y, hy⟩ : ∃ y, Y[i]? = some y := ⟨_, List.getElem?_eq_getElem (by omega)⟩
      obtain ⟨u, s⟩ := x
      obtain ⟨u', t⟩ := y
      obtain ⟨d, rfl, hxr⟩ := sv_row hA0 hx
      obtain ⟨d', rfl, hyr⟩ := sv_row hB0 hy
      obtain ⟨hnx, hlx⟩ := hA0.2 _ (List.mem_of_getElem? hx)
      obtain ⟨hny, hly⟩ := hB0.2 _ (List.mem_of_getElem? hy)
      simp only at hnx hlx hny hly
      have hE1 := Ext.refl w0
      have hD1 : (X.map Prod.snd)[i]? = some s := by simp [hx]
      have hD2 : (Y.map Prod.snd)[i]? = some t := by simp [hy]
      by_cases h1 : s.names = t.names
      · have hd : decide (s.names = t.names) = true := decide_eq_true h1
        by_cases h2 : s.port = t.port
        · by_cases h3 : s.proto = t.proto
          · refine Cd.seq ?_
            refine Cd.seq ?_
            refine Cd.region ?_
            refine Seg.step rfl rfl (Yd.move rfl) ?_
            refine Seg.step rfl rfl (Yd.move rfl) ?_
            refine Seg.step rfl rfl (Yd.lenS rfl rfl) ?_
            refine Seg.step rfl rfl (Yd.lss rfl rfl) ?_
            refine Seg.nil ?_
            refine At.then_ ?_
            refine Cd.condk rfl (fun h26 => ?_) (fun h26 => ?_)
            · refine Cd.skip ?_
              refine At.then_ ?_
              refine Cd.seq ?_
              refine Cd.block ?_
              refine Cd.seq ?_
              refine Cd.anyE (by kernel_rfl) (fun w33 hE33 => ?_)
              replace hE0 := Ext.trans hE0 hE33
              replace hxr := hxr.ext hE33
              replace hA0 := hA0.ext hE33
              replace hyr := hyr.ext hE33
              replace hB0 := hB0.ext hE33
              replace hE1 := Ext.trans hE1 hE33
              refine SegA.pure 0 rfl (by kernel_rfl) (by kernel_rfl) (by kernel_rfl) rfl rfl (fun _ => Yd.move rfl) ?_
              refine SegA.pure 1 rfl (by kernel_rfl) (by kernel_rfl) (by kernel_rfl) rfl rfl (fun _ => Yd.move rfl) ?_
              refine SegA.pure 2 rfl (by kernel_rfl) (by kernel_rfl) (by kernel_rfl) rfl rfl (fun _ => Yd.indexAddr rfl rfl rfl (NatOf.cast _) (by omega)) ?_
              refine SegA.pure 3 rfl (by kernel_rfl) (by kernel_rfl) (by kernel_rfl) rfl rfl (fun _ => Yd.fieldAddr rfl rfl) ?_
              refine SegA.pure 5 rfl (by kernel_rfl) (by kernel_rfl) (by kernel_rfl) rfl rfl (fun _ => Yd.move rfl) ?_
              refine SegA.pure 6 rfl (by kernel_rfl) (by kernel_rfl) (by kernel_rfl) rfl rfl (fun _ => Yd.move rfl) ?_
              refine SegA.pure 7 rfl (by kernel_rfl) (by kernel_rfl) (by kernel_rfl) rfl rfl (fun _ => Yd.indexAddr rfl rfl rfl (NatOf.cast _) (by omega)) ?_
              refine SegA.pure 8 rfl (by kernel_rfl) (by kernel_rfl) (by kernel_rfl) rfl rfl (fun _ => Yd.fieldAddr rfl rfl) ?_
              refine SegA.held 38 ?_
              refine SegG.take 4 rfl (by kernel_rfl) (by kernel_rfl) (by kernel_rfl) (by kernel_rfl) (by kernel_rfl) rfl rfl (fun w' hw' => Yd.load1 rfl rfl ((hxr.ext hw') _ _ rfl)) ?_
              refine SegG.take 9 rfl (by kernel_rfl) (by kernel_rfl) (by kernel_rfl) (by kernel_rfl) (by kernel_rfl) rfl rfl (fun w' hw' => Yd.load1 rfl rfl ((hyr.ext hw') _ _ rfl)) ?_
              refine SegG.oneSeg (o := ⟨_, _, _, _, _, _⟩) 10 rfl (by kernel_rfl) ?_
              (refine Seg.call rfl rfl (own_of rfl) rfl (texts_any s.names t.names u u' _ (hnx.ext hE1) (hny.ext hE1) (by omega)) ?_; rw [hd]; rintro _ w46 ⟨rfl, hE46⟩)
              replace hE33 := Ext.trans hE33 hE46
              replace hE0 := Ext.trans hE0 hE46
              replace hxr := hxr.ext hE46
              replace hA0 := hA0.ext hE46
              replace hyr := hyr.ext hE46
              replace hB0 := hB0.ext hE46
              replace hE1 := Ext.trans hE1 hE46
              refine SegG.back rfl (by first | assumption | exact Ext.refl _) ?_
              refine SegG.take 11 rfl (by kernel_rfl) (by kernel_rfl) (by kernel_rfl) (by kernel_rfl) (by kernel_rfl) rfl rfl (fun w' hw' => Yd.not rfl) ?_
              refine SegG.take 12 rfl (by kernel_rfl) (by kernel_rfl) (by kernel_rfl) (by kernel_rfl) (by kernel_rfl) rfl rfl (fun w' hw' => Yd.move rfl) ?_
              refine SegG.take 13 rfl (by kernel_rfl) (by kernel_rfl) (by kernel_rfl) (by kernel_rfl) (by kernel_rfl) rfl rfl (fun w' hw' => Yd.move rfl) ?_
              refine SegG.take 14 rfl (by kernel_rfl) (by kernel_rfl) (by kernel_rfl) (by kernel_rfl) (by kernel_rfl) rfl rfl (fun w' hw' => Yd.move rfl) ?_
              refine SegG.take 15 rfl (by kernel_rfl) (by kernel_rfl) (by kernel_rfl) (by kernel_rfl) (by kernel_rfl) rfl rfl (fun w' hw' => Yd.indexAddr rfl rfl rfl (NatOf.cast _) (by omega)) ?_
              refine SegG.take 16 rfl (by kernel_rfl) (by kernel_rfl) (by kernel_rfl) (by kernel_rfl) (by kernel_rfl) rfl rfl (fun w' hw' => Yd.fieldAddr rfl rfl) ?_
              refine SegG.take 17 rfl (by kernel_rfl) (by kernel_rfl) (by kernel_rfl) (by kernel_rfl) (by kernel_rfl) rfl rfl (fun w' hw' => Yd.load1 rfl rfl ((hxr.ext hw') _ _ rfl)) ?_
              refine SegG.take 18 rfl (by kernel_rfl) (by kernel_rfl) (by kernel_rfl) (by kernel_rfl) (by kernel_rfl) rfl rfl (fun w' hw' => Yd.move rfl) ?_
              refine SegG.take 19 rfl (by kernel_rfl) (by kernel_rfl) (by kernel_rfl) (by kernel_rfl) (by kernel_rfl) rfl rfl (fun w' hw' => Yd.move rfl) ?_
              refine SegG.take 20 rfl (by kernel_rfl) (by kernel_rfl) (by kernel_rfl) (by kernel_rfl) (by kernel_rfl) rfl rfl (fun w' hw' => Yd.indexAddr rfl rfl rfl (NatOf.cast _) (by omega)) ?_
              refine SegG.take 21 rfl (by kernel_rfl) (by kernel_rfl) (by kernel_rfl) (by kernel_rfl) (by kernel_rfl) rfl rfl (fun w' hw' => Yd.fieldAddr rfl rfl) ?_
              refine SegG.take 22 rfl (by kernel_rfl) (by kernel_rfl) (by kernel_rfl) (by kernel_rfl) (by kernel_rfl) rfl rfl (fun w' hw' => Yd.load1 rfl rfl ((hyr.ext hw') _ _ rfl)) ?_
              refine SegG.take 23 rfl (by kernel_rfl) (by kernel_rfl) (by kernel_rfl) (by kernel_rfl) (by kernel_rfl) rfl rfl (fun w' hw' => Yd.neq rfl rfl) ?_
              refine SegG.take 24 rfl (by kernel_rfl) (by kernel_rfl) (by kernel_rfl) (by kernel_rfl) (by kernel_rfl) rfl rfl (fun w' hw' => Yd.pickF rfl rfl) ?_
              refine SegG.take 25 rfl (by kernel_rfl) (by kernel_rfl) (by kernel_rfl) (by kernel_rfl) (by kernel_rfl) rfl rfl (fun w' hw' => Yd.move rfl) ?_
              refine SegG.gsplitp 26 rfl rfl rfl (fun h63 => ?_) (fun h63 => ?_)
              · contradiction
              · refine SegG.take 26 rfl (by kernel_rfl) (by kernel_rfl) (by kernel_rfl) (by kernel_rfl) (by kernel_rfl) rfl rfl (fun w' hw' => Yd.move rfl) ?_
                refine SegG.take 27 rfl (by kernel_rfl) (by kernel_rfl) (by kernel_rfl) (by kernel_rfl) (by kernel_rfl) rfl rfl (fun w' hw' => Yd.move rfl) ?_
                refine SegG.take 28 rfl (by kernel_rfl) (by kernel_rfl) (by kernel_rfl) (by kernel_rfl) (by kernel_rfl) rfl rfl (fun w' hw' => Yd.indexAddr rfl rfl rfl (NatOf.cast _) (by omega)) ?_
                refine SegG.take 29 rfl (by kernel_rfl) (by kernel_rfl) (by kernel_rfl) (by kernel_rfl) (by kernel_rfl) rfl rfl (fun w' hw' => Yd.fieldAddr rfl rfl) ?_
                refine SegG.take 30 rfl (by kernel_rfl) (by kernel_rfl) (by kernel_rfl) (by kernel_rfl) (by kernel_rfl) rfl rfl (fun w' hw' => Yd.load1 rfl rfl ((hxr.ext hw') _ _ rfl)) ?_
                refine SegG.take 31 rfl (by kernel_rfl) (by kernel_rfl) (by kernel_rfl) (by kernel_rfl) (by kernel_rfl) rfl rfl (fun w' hw' => Yd.move rfl) ?_
                refine SegG.take 32 rfl (by kernel_rfl) (by kernel_rfl) (by kernel_rfl) (by kernel_rfl) (by kernel_rfl) rfl rfl (fun w' hw' => Yd.move rfl) ?_
                refine SegG.take 33 rfl (by kernel_rfl) (by kernel_rfl) (by kernel_rfl) (by kernel_rfl) (by kernel_rfl) rfl rfl (fun w' hw' => Yd.indexAddr rfl rfl rfl (NatOf.cast _) (by omega)) ?_
                refine SegG.take 34 rfl (by kernel_rfl) (by kernel_rfl) (by kernel_rfl) (by kernel_rfl) (by kernel_rfl) rfl rfl (fun w' hw' => Yd.fieldAddr rfl rfl) ?_
                refine SegG.take 35 rfl (by kernel_rfl) (by kernel_rfl) (by kernel_rfl) (by kernel_rfl) (by kernel_rfl) rfl rfl (fun w' hw' => Yd.load1 rfl rfl ((hyr.ext hw') _ _ rfl)) ?_
                refine SegG.take 36 rfl (by kernel_rfl) (by kernel_rfl) (by kernel_rfl) (by kernel_rfl) (by kernel_rfl) rfl rfl (fun w' hw' => Yd.neq rfl rfl) ?_
                refine SegG.take 37 rfl (by kernel_rfl) (by kernel_rfl) (by kernel_rfl) (by kernel_rfl) (by kernel_rfl) rfl rfl (fun w' hw' => Yd.pickF rfl rfl) ?_
                refine SegG.done (by kernel_rfl) ?_
                refine At.then_ ?_
                refine Cd.condk rfl (fun h79 => ?_) (fun h79 => ?_)
                · contradiction
                · refine Cd.skip ?_
                  refine At.blk ?_
                  refine At.then_ ?_
                  refine Cd.region ?_
                  refine Seg.step rfl rfl (Yd.move rfl) ?_
                  refine Seg.step rfl rfl (Yd.addI rfl rfl (by omega)) ?_
                  refine Seg.step rfl rfl (Yd.assign rfl) ?_
                  refine Seg.nil ?_
                  exact At.round (i + 1) (.cons rfl (.cons rfl (.cons rfl (.cons rfl (.nil _))))) ⟨by omega, take_same hT hD1 hD2 ((svc_eq s t).2 ⟨h1, h2, h3⟩), by assumption⟩ (by show _ - _ < _ - _; omega)
            · exfalso; omega
          · refine Cd.seq ?_
            refine Cd.seq ?_
            refine Cd.region ?_
            refine Seg.step rfl rfl (Yd.move rfl) ?_
            refine Seg.step rfl rfl (Yd.move rfl) ?_
            refine Seg.step rfl rfl (Yd.lenS rfl rfl) ?_
            refine Seg.step rfl rfl (Yd.lss rfl rfl) ?_
            refine Seg.nil ?_
            refine At.then_ ?_
            refine Cd.condk rfl (fun h26 => ?_) (fun h26 => ?_)
            · refine Cd.skip ?_
              refine At.then_ ?_
              refine Cd.seq ?_
              refine Cd.block ?_
              refine Cd.seq ?_
              refine Cd.anyE (by kernel_rfl) (fun w33 hE33 => ?_)
              replace hE0 := Ext.trans hE0 hE33
              replace hxr := hxr.ext hE33
              replace hA0 := hA0.ext hE33
              replace hyr := hyr.ext hE33
              replace hB0 := hB0.ext hE33
              replace hE1 := Ext.trans hE1 hE33
              refine SegA.pure 0 rfl (by kernel_rfl) (by kernel_rfl) (by kernel_rfl) rfl rfl (fun _ => Yd.move rfl) ?_
              refine SegA.pure 1 rfl (by kernel_rfl) (by kernel_rfl) (by kernel_rfl) rfl rfl (fun _ => Yd.move rfl) ?_
              refine SegA.pure 2 rfl (by kernel_rfl) (by kernel_rfl) (by kernel_rfl) rfl rfl (fun _ => Yd.indexAddr rfl rfl rfl (NatOf.cast _) (by omega)) ?_
              refine SegA.pure 3 rfl (by kernel_rfl) (by kernel_rfl) (by kernel_rfl) rfl rfl (fun _ => Yd.fieldAddr rfl rfl) ?_
              refine SegA.pure 5 rfl (by kernel_rfl) (by kernel_rfl) (by kernel_rfl) rfl rfl (fun _ => Yd.move rfl) ?_
              refine SegA.pure 6 rfl (by kernel_rfl) (by kernel_rfl) (by kernel_rfl) rfl rfl (fun _ => Yd.move rfl) ?_
              refine SegA.pure 7 rfl (by kernel_rfl) (by kernel_rfl) (by kernel_rfl) rfl rfl (fun _ => Yd.indexAddr rfl rfl rfl (NatOf.cast _) (by omega)) ?_
              refine SegA.pure 8 rfl (by kernel_rfl) (by kernel_rfl) (by kernel_rfl) rfl rfl (fun _ => Yd.fieldAddr rfl rfl) ?_
              refine SegA.held 38 ?_
              refine SegG.take 4 rfl (by kernel_rfl) (by kernel_rfl) (by kernel_rfl) (by kernel_rfl) (by kernel_rfl) rfl rfl (fun w' hw' => Yd.load1 rfl rfl ((hxr.ext hw') _ _ rfl)) ?_
              refine SegG.take 9 rfl (by kernel_rfl) (by kernel_rfl) (by kernel_rfl) (by kernel_rfl) (by kernel_rfl) rfl rfl (fun w' hw' => Yd.load1 rfl rfl ((hyr.ext hw') _ _ rfl)) ?_
              refine SegG.oneSeg (o := ⟨_, _, _, _, _, _⟩) 10 rfl (by kernel_rfl) ?_
              (refine Seg.call rfl rfl (own_of rfl) rfl (texts_any s.names t.names u u' _ (hnx.ext hE1) (hny.ext hE1) (by omega)) ?_; rw [hd]; rintro _ w46 ⟨rfl, hE46⟩)
              replace hE33 := Ext.trans hE33 hE46
              replace hE0 := Ext.trans hE0 hE46
              replace hxr := hxr.ext hE46
              replace hA0 := hA0.ext hE46
              replace hyr := hyr.ext hE46
              replace hB0 := hB0.ext hE46
              replace hE1 := Ext.trans hE1 hE46
              refine SegG.back rfl (by first | assumption | exact Ext.refl _) ?_
              refine SegG.take 11 rfl (by kernel_rfl) (by kernel_rfl) (by kernel_rfl) (by kernel_rfl) (by kernel_rfl) rfl rfl (fun w' hw' => Yd.not rfl) ?_
              refine SegG.take 12 rfl (by kernel_rfl) (by kernel_rfl) (by kernel_rfl) (by kernel_rfl) (by kernel_rfl) rfl rfl (fun w' hw' => Yd.move rfl) ?_
              refine SegG.take 13 rfl (by kernel_rfl) (by kernel_rfl) (by kernel_rfl) (by kernel_rfl) (by kernel_rfl) rfl rfl (fun w' hw' => Yd.move rfl) ?_
              refine SegG.take 14 rfl (by kernel_rfl) (by kernel_rfl) (by kernel_rfl) (by kernel_rfl) (by kernel_rfl) rfl rfl (fun w' hw' => Yd.move rfl) ?_
              refine SegG.take 15 rfl (by kernel_rfl) (by kernel_rfl) (by kernel_rfl) (by kernel_rfl) (by kernel_rfl) rfl rfl (fun w' hw' => Yd.indexAddr rfl rfl rfl (NatOf.cast _) (by omega)) ?_
              refine SegG.take 16 rfl (by kernel_rfl) (by kernel_rfl) (by kernel_rfl) (by kernel_rfl) (by kernel_rfl) rfl rfl (fun w' hw' => Yd.fieldAddr rfl rfl) ?_
              refine SegG.take 17 rfl (by kernel_rfl) (by kernel_rfl) (by kernel_rfl) (by kernel_rfl) (by kernel_rfl) rfl rfl (fun w' hw' => Yd.load1 rfl rfl ((hxr.ext hw') _ _ rfl)) ?_
              refine SegG.take 18 rfl (by kernel_rfl) (by kernel_rfl) (by kernel_rfl) (by kernel_rfl) (by kernel_rfl) rfl rfl (fun w' hw' => Yd.move rfl) ?_
              refine SegG.take 19 rfl (by kernel_rfl) (by kernel_rfl) (by kernel_rfl) (by kernel_rfl) (by kernel_rfl) rfl rfl (fun w' hw' => Yd.move rfl) ?_
              refine SegG.take 20 rfl (by kernel_rfl) (by kernel_rfl) (by kernel_rfl) (by kernel_rfl) (by kernel_rfl) rfl rfl (fun w' hw' => Yd.indexAddr rfl rfl rfl (NatOf.cast _) (by omega)) ?_
              refine SegG.take 21 rfl (by kernel_rfl) (by kernel_rfl) (by kernel_rfl) (by kernel_rfl) (by kernel_rfl) rfl rfl (fun w' hw' => Yd.fieldAddr rfl rfl) ?_
              refine SegG.take 22 rfl (by kernel_rfl) (by kernel_rfl) (by kernel_rfl) (by kernel_rfl) (by kernel_rfl) rfl rfl (fun w' hw' => Yd.load1 rfl rfl ((hyr.ext hw') _ _ rfl)) ?_
              refine SegG.take 23 rfl (by kernel_rfl) (by kernel_rfl) (by kernel_rfl) (by kernel_rfl) (by kernel_rfl) rfl rfl (fun w' hw' => Yd.neq rfl rfl) ?_
              refine SegG.take 24 rfl (by kernel_rfl) (by kernel_rfl) (by kernel_rfl) (by kernel_rfl) (by kernel_rfl) rfl rfl (fun w' hw' => Yd.pickF rfl rfl) ?_
              refine SegG.take 25 rfl (by kernel_rfl) (by kernel_rfl) (by kernel_rfl) (by kernel_rfl) (by kernel_rfl) rfl rfl (fun w' hw' => Yd.move rfl) ?_
              refine SegG.gsplitp 26 rfl rfl rfl (fun h63 => ?_) (fun h63 => ?_)
              · contradiction
              · refine SegG.take 26 rfl (by kernel_rfl) (by kernel_rfl) (by kernel_rfl) (by kernel_rfl) (by kernel_rfl) rfl rfl (fun w' hw' => Yd.move rfl) ?_
                refine SegG.take 27 rfl (by kernel_rfl) (by kernel_rfl) (by kernel_rfl) (by kernel_rfl) (by kernel_rfl) rfl rfl (fun w' hw' => Yd.move rfl) ?_
                refine SegG.take 28 rfl (by kernel_rfl) (by kernel_rfl) (by kernel_rfl) (by kernel_rfl) (by kernel_rfl) rfl rfl (fun w' hw' => Yd.indexAddr rfl rfl rfl (NatOf.cast _) (by omega)) ?_
                refine SegG.take 29 rfl (by kernel_rfl) (by kernel_rfl) (by kernel_rfl) (by kernel_rfl) (by kernel_rfl) rfl rfl (fun w' hw' => Yd.fieldAddr rfl rfl) ?_
                refine SegG.take 30 rfl (by kernel_rfl) (by kernel_rfl) (by kernel_rfl) (by kernel_rfl) (by kernel_rfl) rfl rfl (fun w' hw' => Yd.load1 rfl rfl ((hxr.ext hw') _ _ rfl)) ?_
                refine SegG.take 31 rfl (by kernel_rfl) (by kernel_rfl) (by kernel_rfl) (by kernel_rfl) (by kernel_rfl) rfl rfl (fun w' hw' => Yd.move rfl) ?_
                refine SegG.take 32 rfl (by kernel_rfl) (by kernel_rfl) (by kernel_rfl) (by kernel_rfl) (by kernel_rfl) rfl rfl (fun w' hw' => Yd.move rfl) ?_
                refine SegG.take 33 rfl (by kernel_rfl) (by kernel_rfl) (by kernel_rfl) (by kernel_rfl) (by kernel_rfl) rfl rfl (fun w' hw' => Yd.indexAddr rfl rfl rfl (NatOf.cast _) (by omega)) ?_
                refine SegG.take 34 rfl (by kernel_rfl) (by kernel_rfl) (by kernel_rfl) (by kernel_rfl) (by kernel_rfl) rfl rfl (fun w' hw' => Yd.fieldAddr rfl rfl) ?_
                refine SegG.take 35 rfl (by kernel_rfl) (by kernel_rfl) (by kernel_rfl) (by kernel_rfl) (by kernel_rfl) rfl rfl (fun w' hw' => Yd.load1 rfl rfl ((hyr.ext hw') _ _ rfl)) ?_
                refine SegG.take 36 rfl (by kernel_rfl) (by kernel_rfl) (by kernel_rfl) (by kernel_rfl) (by kernel_rfl) rfl rfl (fun w' hw' => Yd.neq rfl rfl) ?_
                refine SegG.take 37 rfl (by kernel_rfl) (by kernel_rfl) (by kernel_rfl) (by kernel_rfl) (by kernel_rfl) rfl rfl (fun w' hw' => Yd.pickF rfl rfl) ?_
                refine SegG.done (by kernel_rfl) ?_
                refine At.then_ ?_
                refine Cd.condk rfl (fun h79 => ?_) (fun h79 => ?_)
                · refine Cd.seq ?_
                  refine Cd.region ?_
                  refine Seg.step rfl rfl (Yd.assign rfl) ?_
                  refine Seg.nil ?_
                  refine At.then_ ?_
                  refine Cd.ret ?_
                  refine At.blk_ret ?_
                  refine At.then_ret ?_
                  refine At.then_ret ?_
                  refine At.blk_ret ?_
                  refine At.then_ret ?_
                  exact At.ret Try.results12 (.tmp rfl .nil) ⟨bF (not_same hD1 hD2 (fun h => h3 (congrArg Svc.proto h))), by assumption⟩
                · contradiction
            · exfalso; omega
        · refine Cd.seq ?_
          refine Cd.seq ?_
          refine Cd.region ?_
          refine Seg.step rfl rfl (Yd.move rfl) ?_
          refine Seg.step rfl rfl (Yd.move rfl) ?_
          refine Seg.step rfl rfl (Yd.lenS rfl rfl) ?_
          refine Seg.step rfl rfl (Yd.lss rfl rfl) ?_
          refine Seg.nil ?_
          refine At.then_ ?_
          refine Cd.condk rfl (fun h26 => ?_) (fun h26 => ?_)
          · refine Cd.skip ?_
            refine At.then_ ?_
            refine Cd.seq ?_
            refine Cd.block ?_
            refine Cd.seq ?_
            refine Cd.anyE (by kernel_rfl) (fun w33 hE33 => ?_)
            replace hE0 := Ext.trans hE0 hE33
            replace hxr := hxr.ext hE33
            replace hA0 := hA0.ext hE33
            replace hyr := hyr.ext hE33
            replace hB0 := hB0.ext hE33
            replace hE1 := Ext.trans hE1 hE33
            refine SegA.pure 0 rfl (by kernel_rfl) (by kernel_rfl) (by kernel_rfl) rfl rfl (fun _ => Yd.move rfl) ?_
            refine SegA.pure 1 rfl (by kernel_rfl) (by kernel_rfl) (by kernel_rfl) rfl rfl (fun _ => Yd.move rfl) ?_
            refine SegA.pure 2 rfl (by kernel_rfl) (by kernel_rfl) (by kernel_rfl) rfl rfl (fun _ => Yd.indexAddr rfl rfl rfl (NatOf.cast _) (by omega)) ?_
            refine SegA.pure 3 rfl (by kernel_rfl) (by kernel_rfl) (by kernel_rfl) rfl rfl (fun _ => Yd.fieldAddr rfl rfl) ?_
            refine SegA.pure 5 rfl (by kernel_rfl) (by kernel_rfl) (by kernel_rfl) rfl rfl (fun _ => Yd.move rfl) ?_
            refine SegA.pure 6 rfl (by kernel_rfl) (by kernel_rfl) (by kernel_rfl) rfl rfl (fun _ => Yd.move rfl) ?_
            refine SegA.pure 7 rfl (by kernel_rfl) (by kernel_rfl) (by kernel_rfl) rfl rfl (fun _ => Yd.indexAddr rfl rfl rfl (NatOf.cast _) (by omega)) ?_
            refine SegA.pure 8 rfl (by kernel_rfl) (by kernel_rfl) (by kernel_rfl) rfl rfl (fun _ => Yd.fieldAddr rfl rfl) ?_
            refine SegA.held 38 ?_
            refine SegG.take 4 rfl (by kernel_rfl) (by kernel_rfl) (by kernel_rfl) (by kernel_rfl) (by kernel_rfl) rfl rfl (fun w' hw' => Yd.load1 rfl rfl ((hxr.ext hw') _ _ rfl)) ?_
            refine SegG.take 9 rfl (by kernel_rfl) (by kernel_rfl) (by kernel_rfl) (by kernel_rfl) (by kernel_rfl) rfl rfl (fun w' hw' => Yd.load1 rfl rfl ((hyr.ext hw') _ _ rfl)) ?_
            refine SegG.oneSeg (o := ⟨_, _, _, _, _, _⟩) 10 rfl (by kernel_rfl) ?_
            (refine Seg.call rfl rfl (own_of rfl) rfl (texts_any s.names t.names u u' _ (hnx.ext hE1) (hny.ext hE1) (by omega)) ?_; rw [hd]; rintro _ w46 ⟨rfl, hE46⟩)
            replace hE33 := Ext.trans hE33 hE46
            replace hE0 := Ext.trans hE0 hE46
            replace hxr := hxr.ext hE46
            replace hA0 := hA0.ext hE46
            replace hyr := hyr.ext hE46
            replace hB0 := hB0.ext hE46
            replace hE1 := Ext.trans hE1 hE46
            refine SegG.back rfl (by first | assumption | exact Ext.refl _) ?_
            refine SegG.take 11 rfl (by kernel_rfl) (by kernel_rfl) (by kernel_rfl) (by kernel_rfl) (by kernel_rfl) rfl rfl (fun w' hw' => Yd.not rfl) ?_
            refine SegG.take 12 rfl (by kernel_rfl) (by kernel_rfl) (by kernel_rfl) (by kernel_rfl) (by kernel_rfl) rfl rfl (fun w' hw' => Yd.move rfl) ?_
            refine SegG.take 13 rfl (by kernel_rfl) (by kernel_rfl) (by kernel_rfl) (by kernel_rfl) (by kernel_rfl) rfl rfl (fun w' hw' => Yd.move rfl) ?_
            refine SegG.take 14 rfl (by kernel_rfl) (by kernel_rfl) (by kernel_rfl) (by kernel_rfl) (by kernel_rfl) rfl rfl (fun w' hw' => Yd.move rfl) ?_
            refine SegG.take 15 rfl (by kernel_rfl) (by kernel_rfl) (by kernel_rfl) (by kernel_rfl) (by kernel_rfl) rfl rfl (fun w' hw' => Yd.indexAddr rfl rfl rfl (NatOf.cast _) (by omega)) ?_
            refine SegG.take 16 rfl (by kernel_rfl) (by kernel_rfl) (by kernel_rfl) (by kernel_rfl) (by kernel_rfl) rfl rfl (fun w' hw' => Yd.fieldAddr rfl rfl) ?_
            refine SegG.take 17 rfl (by kernel_rfl) (by kernel_rfl) (by kernel_rfl) (by kernel_rfl) (by kernel_rfl) rfl rfl (fun w' hw' => Yd.load1 rfl rfl ((hxr.ext hw') _ _ rfl)) ?_
            refine SegG.take 18 rfl (by kernel_rfl) (by kernel_rfl) (by kernel_rfl) (by kernel_rfl) (by kernel_rfl) rfl rfl (fun w' hw' => Yd.move rfl) ?_
            refine SegG.take 19 rfl (by kernel_rfl) (by kernel_rfl) (by kernel_rfl) (by kernel_rfl) (by kernel_rfl) rfl rfl (fun w' hw' => Yd.move rfl) ?_
            refine SegG.take 20 rfl (by kernel_rfl) (by kernel_rfl) (by kernel_rfl) (by kernel_rfl) (by kernel_rfl) rfl rfl (fun w' hw' => Yd.indexAddr rfl rfl rfl (NatOf.cast _) (by omega)) ?_
            refine SegG.take 21 rfl (by kernel_rfl) (by kernel_rfl) (by kernel_rfl) (by kernel_rfl) (by kernel_rfl) rfl rfl (fun w' hw' => Yd.fieldAddr rfl rfl) ?_
            refine SegG.take 22 rfl (by kernel_rfl) (by kernel_rfl) (by kernel_rfl) (by kernel_rfl) (by kernel_rfl) rfl rfl (fun w' hw' => Yd.load1 rfl rfl ((hyr.ext hw') _ _ rfl)) ?_
            refine SegG.take 23 rfl (by kernel_rfl) (by kernel_rfl) (by kernel_rfl) (by kernel_rfl) (by kernel_rfl) rfl rfl (fun w' hw' => Yd.neq rfl rfl) ?_
            refine SegG.take 24 rfl (by kernel_rfl) (by kernel_rfl) (by kernel_rfl) (by kernel_rfl) (by kernel_rfl) rfl rfl (fun w' hw' => Yd.pickF rfl rfl) ?_
            refine SegG.take 25 rfl (by kernel_rfl) (by kernel_rfl) (by kernel_rfl) (by kernel_rfl) (by kernel_rfl) rfl rfl (fun w' hw' => Yd.move rfl) ?_
            refine SegG.gsplitp 26 rfl rfl rfl (fun h63 => ?_) (fun h63 => ?_)
            · refine SegG.skip 26 rfl (by kernel_rfl) (by kernel_rfl) (by kernel_rfl) (by kernel_rfl) (by kernel_rfl) rfl rfl ?_
              refine SegG.skip 27 rfl (by kernel_rfl) (by kernel_rfl) (by kernel_rfl) (by kernel_rfl) (by kernel_rfl) rfl rfl ?_
              refine SegG.skip 28 rfl (by kernel_rfl) (by kernel_rfl) (by kernel_rfl) (by kernel_rfl) (by kernel_rfl) rfl rfl ?_
              refine SegG.skip 29 rfl (by kernel_rfl) (by kernel_rfl) (by kernel_rfl) (by kernel_rfl) (by kernel_rfl) rfl rfl ?_
              refine SegG.skip 30 rfl (by kernel_rfl) (by kernel_rfl) (by kernel_rfl) (by kernel_rfl) (by kernel_rfl) rfl rfl ?_
              refine SegG.skip 31 rfl (by kernel_rfl) (by kernel_rfl) (by kernel_rfl) (by kernel_rfl) (by kernel_rfl) rfl rfl ?_
              refine SegG.skip 32 rfl (by kernel_rfl) (by kernel_rfl) (by kernel_rfl) (by kernel_rfl) (by kernel_rfl) rfl rfl ?_
              refine SegG.skip 33 rfl (by kernel_rfl) (by kernel_rfl) (by kernel_rfl) (by kernel_rfl) (by kernel_rfl) rfl rfl ?_
              refine SegG.skip 34 rfl (by kernel_rfl) (by kernel_rfl) (by kernel_rfl) (by kernel_rfl) (by kernel_rfl) rfl rfl ?_
              refine SegG.skip 35 rfl (by kernel_rfl) (by kernel_rfl) (by kernel_rfl) (by kernel_rfl) (by kernel_rfl) rfl rfl ?_
              refine SegG.skip 36 rfl (by kernel_rfl) (by kernel_rfl) (by kernel_rfl) (by kernel_rfl) (by kernel_rfl) rfl rfl ?_
              refine SegG.take 37 rfl (by kernel_rfl) (by kernel_rfl) (by kernel_rfl) (by kernel_rfl) (by kernel_rfl) rfl rfl (fun w' hw' => Yd.pickT rfl rfl) ?_
              refine SegG.done (by kernel_rfl) ?_
              refine At.then_ ?_
              refine Cd.condT rfl ?_
              refine Cd.seq ?_
              refine Cd.region ?_
              refine Seg.step rfl rfl (Yd.assign rfl) ?_
              refine Seg.nil ?_
              refine At.then_ ?_
              refine Cd.ret ?_
              refine At.blk_ret ?_
              refine At.then_ret ?_
              refine At.then_ret ?_
              refine At.blk_ret ?_
              refine At.then_ret ?_
              exact At.ret Try.results12 (.tmp rfl .nil) ⟨bF (not_same hD1 hD2 (fun h => h2 (congrArg Svc.port h))), by assumption⟩
            · contradiction
          · exfalso; omega
      · have hd : decide (s.names = t.names) = false := decide_eq_false h1
        refine Cd.seq ?_
        refine Cd.seq ?_
        refine Cd.region ?_
        refine Seg.step rfl rfl (Yd.move rfl) ?_
        refine Seg.step rfl rfl (Yd.move rfl) ?_
        refine Seg.step rfl rfl (Yd.lenS rfl rfl) ?_
        refine Seg.step rfl rfl (Yd.lss rfl rfl) ?_
        refine Seg.nil ?_
        refine At.then_ ?_
        refine Cd.condk rfl (fun h26 => ?_) (fun h26 => ?_)
        · refine Cd.skip ?_
          refine At.then_ ?_
          refine Cd.seq ?_
          refine Cd.block ?_
          refine Cd.seq ?_
          refine Cd.anyE (by kernel_rfl) (fun w33 hE33 => ?_)
          replace hE0 := Ext.trans hE0 hE33
          replace hxr := hxr.ext hE33
          replace hA0 := hA0.ext hE33
          replace hyr := hyr.ext hE33
          replace hB0 := hB0.ext hE33
          replace hE1 := Ext.trans hE1 hE33
          refine SegA.pure 0 rfl (by kernel_rfl) (by kernel_rfl) (by kernel_rfl) rfl rfl (fun _ => Yd.move rfl) ?_
          refine SegA.pure 1 rfl (by kernel_rfl) (by kernel_rfl) (by kernel_rfl) rfl rfl (fun _ => Yd.move rfl) ?_
          refine SegA.pure 2 rfl (by kernel_rfl) (by kernel_rfl) (by kernel_rfl) rfl rfl (fun _ => Yd.indexAddr rfl rfl rfl (NatOf.cast _) (by omega)) ?_
          refine SegA.pure 3 rfl (by kernel_rfl) (by kernel_rfl) (by kernel_rfl) rfl rfl (fun _ => Yd.fieldAddr rfl rfl) ?_
          refine SegA.pure 5 rfl (by kernel_rfl) (by kernel_rfl) (by kernel_rfl) rfl rfl (fun _ => Yd.move rfl) ?_
          refine SegA.pure 6 rfl (by kernel_rfl) (by kernel_rfl) (by kernel_rfl) rfl rfl (fun _ => Yd.move rfl) ?_
          refine SegA.pure 7 rfl (by kernel_rfl) (by kernel_rfl) (by kernel_rfl) rfl rfl (fun _ => Yd.indexAddr rfl rfl rfl (NatOf.cast _) (by omega)) ?_
          refine SegA.pure 8 rfl (by kernel_rfl) (by kernel_rfl) (by kernel_rfl) rfl rfl (fun _ => Yd.fieldAddr rfl rfl) ?_
          refine SegA.held 38 ?_
          refine SegG.take 4 rfl (by kernel_rfl) (by kernel_rfl) (by kernel_rfl) (by kernel_rfl) (by kernel_rfl) rfl rfl (fun w' hw' => Yd.load1 rfl rfl ((hxr.ext hw') _ _ rfl)) ?_
          refine SegG.take 9 rfl (by kernel_rfl) (by kernel_rfl) (by kernel_rfl) (by kernel_rfl) (by kernel_rfl) rfl rfl (fun w' hw' => Yd.load1 rfl rfl ((hyr.ext hw') _ _ rfl)) ?_
          refine SegG.oneSeg (o := ⟨_, _, _, _, _, _⟩) 10 rfl (by kernel_rfl) ?_
          (refine Seg.call rfl rfl (own_of rfl) rfl (texts_any s.names t.names u u' _ (hnx.ext hE1) (hny.ext hE1) (by omega)) ?_; rw [hd]; rintro _ w46 ⟨rfl, hE46⟩)
          replace hE33 := Ext.trans hE33 hE46
          replace hE0 := Ext.trans hE0 hE46
          replace hxr := hxr.ext hE46
          replace hA0 := hA0.ext hE46
          replace hyr := hyr.ext hE46
          replace hB0 := hB0.ext hE46
          replace hE1 := Ext.trans hE1 hE46
          refine SegG.back rfl (by first | assumption | exact Ext.refl _) ?_
          refine SegG.take 11 rfl (by kernel_rfl) (by kernel_rfl) (by kernel_rfl) (by kernel_rfl) (by kernel_rfl) rfl rfl (fun w' hw' => Yd.not rfl) ?_
          refine SegG.take 12 rfl (by kernel_rfl) (by kernel_rfl) (by kernel_rfl) (by kernel_rfl) (by kernel_rfl) rfl rfl (fun w' hw' => Yd.move rfl) ?_
          refine SegG.skip 13 rfl (by kernel_rfl) (by kernel_rfl) (by kernel_rfl) (by kernel_rfl) (by kernel_rfl) rfl rfl ?_
          refine SegG.skip 14 rfl (by kernel_rfl) (by kernel_rfl) (by kernel_rfl) (by kernel_rfl) (by kernel_rfl) rfl rfl ?_
          refine SegG.skip 15 rfl (by kernel_rfl) (by kernel_rfl) (by kernel_rfl) (by kernel_rfl) (by kernel_rfl) rfl rfl ?_
          refine SegG.skip 16 rfl (by kernel_rfl) (by kernel_rfl) (by kernel_rfl) (by kernel_rfl) (by kernel_rfl) rfl rfl ?_
          refine SegG.skip 17 rfl (by kernel_rfl) (by kernel_rfl) (by kernel_rfl) (by kernel_rfl) (by kernel_rfl) rfl rfl ?_
          refine SegG.skip 18 rfl (by kernel_rfl) (by kernel_rfl) (by kernel_rfl) (by kernel_rfl) (by kernel_rfl) rfl rfl ?_
          refine SegG.skip 19 rfl (by kernel_rfl) (by kernel_rfl) (by kernel_rfl) (by kernel_rfl) (by kernel_rfl) rfl rfl ?_
          refine SegG.skip 20 rfl (by kernel_rfl) (by kernel_rfl) (by kernel_rfl) (by kernel_rfl) (by kernel_rfl) rfl rfl ?_
          refine SegG.skip 21 rfl (by kernel_rfl) (by kernel_rfl) (by kernel_rfl) (by kernel_rfl) (by kernel_rfl) rfl rfl ?_
          refine SegG.skip 22 rfl (by kernel_rfl) (by kernel_rfl) (by kernel_rfl) (by kernel_rfl) (by kernel_rfl) rfl rfl ?_
          refine SegG.skip 23 rfl (by kernel_rfl) (by kernel_rfl) (by kernel_rfl) (by kernel_rfl) (by kernel_rfl) rfl rfl ?_
          refine SegG.take 24 rfl (by kernel_rfl) (by kernel_rfl) (by kernel_rfl) (by kernel_rfl) (by kernel_rfl) rfl rfl (fun w' hw' => Yd.pickT rfl rfl) ?_
          refine SegG.take 25 rfl (by kernel_rfl) (by kernel_rfl) (by kernel_rfl) (by kernel_rfl) (by kernel_rfl) rfl rfl (fun w' hw' => Yd.move rfl) ?_
          refine SegG.skip 26 rfl (by kernel_rfl) (by kernel_rfl) (by kernel_rfl) (by kernel_rfl) (by kernel_rfl) rfl rfl ?_
          refine SegG.skip 27 rfl (by kernel_rfl) (by kernel_rfl) (by kernel_rfl) (by kernel_rfl) (by kernel_rfl) rfl rfl ?_
          refine SegG.skip 28 rfl (by kernel_rfl) (by kernel_rfl) (by kernel_rfl) (by kernel_rfl) (by kernel_rfl) rfl rfl ?_
          refine SegG.skip 29 rfl (by kernel_rfl) (by kernel_rfl) (by kernel_rfl) (by kernel_rfl) (by kernel_rfl) rfl rfl ?_
          refine SegG.skip 30 rfl (by kernel_rfl) (by kernel_rfl) (by kernel_rfl) (by kernel_rfl) (by kernel_rfl) rfl rfl ?_
          refine SegG.skip 31 rfl (by kernel_rfl) (by kernel_rfl) (by kernel_rfl) (by kernel_rfl) (by kernel_rfl) rfl rfl ?_
          refine SegG.skip 32 rfl (by kernel_rfl) (by kernel_rfl) (by kernel_rfl) (by kernel_rfl) (by kernel_rfl) rfl rfl ?_
          refine SegG.skip 33 rfl (by kernel_rfl) (by kernel_rfl) (by kernel_rfl) (by kernel_rfl) (by kernel_rfl) rfl rfl ?_
          refine SegG.skip 34 rfl (by kernel_rfl) (by kernel_rfl) (by kernel_rfl) (by kernel_rfl) (by kernel_rfl) rfl rfl ?_
          refine SegG.skip 35 rfl (by kernel_rfl) (by kernel_rfl) (by kernel_rfl) (by kernel_rfl) (by kernel_rfl) rfl rfl ?_
          refine SegG.skip 36 rfl (by kernel_rfl) (by kernel_rfl) (by kernel_rfl) (by kernel_rfl) (by kernel_rfl) rfl rfl ?_
          refine SegG.take 37 rfl (by kernel_rfl) (by kernel_rfl) (by kernel_rfl) (by kernel_rfl) (by kernel_rfl) rfl rfl (fun w' hw' => Yd.pickT rfl rfl) ?_
          refine SegG.done (by kernel_rfl) ?_
          refine At.then_ ?_
          refine Cd.condT rfl ?_
          refine Cd.seq ?_
          refine Cd.region ?_
          refine Seg.step rfl rfl (Yd.assign rfl) ?_
          refine Seg.nil ?_
          refine At.then_ ?_
          refine Cd.ret ?_
          refine At.blk_ret ?_
          refine At.then_ret ?_
          refine At.then_ret ?_
          refine At.blk_ret ?_
          refine At.then_ret ?_
          exact At.ret Try.results12 (.tmp rfl .nil) ⟨bF (not_same hD1 hD2 (fun h => h1 (congrArg Svc.names h))), by assumption⟩
        · exfalso; omega
    · have hXY := all_same hT (by simp; omega) (by simp [hlm])
      refine Cd.seq ?_
      refine Cd.seq ?_
      refine Cd.region ?_
      refine Seg.step rfl rfl (Yd.move rfl) ?_
      refine Seg.step rfl rfl (Yd.move rfl) ?_
      refine Seg.step rfl rfl (Yd.lenS rfl rfl) ?_
      refine Seg.step rfl rfl (Yd.lss rfl rfl) ?_
      refine Seg.nil ?_
      refine At.then_ ?_
      refine Cd.condk rfl (fun h26 => ?_) (fun h26 => ?_)
      · exfalso; omega
      · refine Cd.exit ?_
        refine At.then_exit ?_
        refine At.then_exit ?_
        refine At.blk_same ?_
        refine At.then_ ?_
        refine Cd.seq ?_
        refine Cd.region ?_
        refine Seg.step rfl rfl (Yd.assign rfl) ?_
        refine Seg.nil ?_
        refine At.then_ ?_
        refine Cd.ret ?_
        exact At.ret Try.results12 (.tmp rfl .nil) ⟨bT hXY, hE0⟩
  · refine Cd.seq ?_
    refine Cd.region ?_
    refine Seg.step rfl rfl (Yd.assign rfl) ?_
    refine Seg.nil ?_
    refine At.then_ ?_
    refine Cd.seq ?_
    refine Cd.seq ?_
    refine Cd.region ?_
    refine Seg.step rfl rfl (Yd.move rfl) ?_
    refine Seg.step rfl rfl (Yd.lenS rfl rfl) ?_
    refine Seg.step rfl rfl (Yd.move rfl) ?_
    refine Seg.step rfl rfl (Yd.lenS rfl rfl) ?_
    refine Seg.step rfl rfl (Yd.neq rfl rfl) ?_
    refine Seg.nil ?_
    refine At.then_ ?_
    refine Cd.condk rfl (fun h16 => ?_) (fun h16 => ?_)
    · refine Cd.seq ?_
      refine Cd.region ?_
      refine Seg.step rfl rfl (Yd.assign rfl) ?_
      refine Seg.nil ?_
      refine At.then_ ?_
      refine Cd.ret ?_
      refine At.then_ret ?_
      exact At.ret Try.results12 (.tmp rfl .nil) ⟨bF (fun h => hlm (by simpa using congrArg List.length h)), by assumption⟩
    · exfalso; omega
end Go.Proofs.Ytbmgigbedmgfpaa
