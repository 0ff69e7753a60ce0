/- Stable sorting: rows of structs that change places; the walks of swapRange and rotate. -/
import Derived.Test.YtccppgpedlfjdaaBel
namespace Go.Proofs.Ytccppgpedlfjdaa
open Go Go.RowKit
theorem room {cur : List El} {zs : List Value} {i : Nat} {y : El} (hi : i < cur.length) : i * 33 + (cel y).toArray.toList.length ≤ (cur.flatMap cel ++ zs).length := by
  rw [List.length_append, flat_len celK, show (cel y).toArray.toList.length = 33 from celK y, ← Nat.succ_mul]
  exact Nat.le_trans (Nat.mul_le_mul_right _ hi) (Nat.le_add_right _ _)
theorem cur_set {cur : List El} {zs : List Value} {i b : Nat} {y : El} {w : World} (hi : i < cur.length) (h : Bx w b ((cur.flatMap cel ++ zs).take (i * 33) ++ ((cel y).toArray.toList ++ (cur.flatMap cel ++ zs).drop (i * 33 + (cel y).toArray.toList.length)))) :
    Bx w b ((cur.set i y).flatMap cel ++ zs) := by
  rw [← flat_set celK hi]; exact h
theorem celOneA (y : El) : ∀ c ∈ (cel y).toArray.toList, c.oneCell' = true := celOne y
theorem cur_row {cur : List El} {zs : List Value} {b i : Nat} {x : El} {w : World} (h : Bx w b (cur.flatMap cel ++ zs)) (hx : cur[i]? = some x) : Row w (Addr.add ⟨b, 0, none⟩ (i * 33)) (cel x) := flat_row celK h.row hx
abbrev cmpV : Value := .func (.func 24) #[] #[]
abbrev dataV (b N cap : Nat) : Value := .slice (some ⟨b, 0, none⟩) N cap
theorem at_mid {Q1 R : List El} {x : El} {i : Nat} (h : i = Q1.length) : (Q1 ++ x :: R)[i]? = some x := by subst h; simp
set_option maxHeartbeats 400000 in
theorem swp_any (A X C Y B : List El) (zs : List Value) (b N cap : Nat) (p q r : Int) (w : World) (hl : X.length = Y.length) (hN : N = (A ++ (X ++ (C ++ (Y ++ B)))).length) (hN' : N ≤ 1000000) (hB : Bx w b ((A ++ (X ++ (C ++ (Y ++ B)))).flatMap cel ++ zs))
    (hp : p = (A.length : Nat)) (hq : q = ((A.length + X.length + C.length : Nat) : Int)) (hr : r = (X.length : Nat)) :
    Ret Try.prog 42 #[dataV b N cap, .int .i64 p, .int .i64 q, .int .i64 r, cmpV] w fun _ w' => Bx w' b ((A ++ (Y ++ (C ++ (X ++ B)))).flatMap cel ++ zs) ∧ Wr b w w' := by
  subst hp; subst hq; subst hr
  have hWr : Wr b w w := (Ext.refl w).wr b
  refine Ret.body Try.func42 rfl Try.ntmps42 rfl ?_
  have hlen : N = A.length + X.length + C.length + Y.length + B.length := by rw [hN]; simp; omega
  refine Cd.seq ?_
  refine Cd.region ?_
  refine Seg.step rfl rfl (Yd.assign rfl) ?_
  refine Seg.nil ?_
  refine At.then_ ?_
  refine Cd.block ?_
  refine Cd.loop (σ := Nat) (fun i => [(0, dataV b N cap), (1, .int .i64 (A.length : Nat)), (2, .int .i64 ((A.length + X.length + C.length : Nat) : Int)), (3, .int .i64 (X.length : Nat)), (10, .int .i64 i)])
    (fun i w' => i ≤ X.length ∧ Bx w' b ((A ++ ((Y.take i ++ X.drop i) ++ (C ++ ((X.take i ++ Y.drop i) ++ B)))).flatMap cel ++ zs) ∧ Wr b w w') (fun i => X.length - i) 0 (.cons rfl (.cons rfl (.cons rfl (.cons rfl (.cons rfl (.nil _)))))) ⟨Nat.zero_le _, by simpa using hB, hWr⟩ ?_
  clear hWr hB
  rintro i w0 ⟨hi, hB, hWr⟩
  by_cases hlt : i < X.length
  · obtain ⟨x, hx⟩ : ∃ x, X.drop i = x :: X.drop (i + 1) := ⟨_, List.drop_eq_getElem_cons hlt⟩
    obtain ⟨y, hy⟩ : ∃ y, Y.drop i = y :: Y.drop (i + 1) := ⟨_, List.drop_eq_getElem_cons (by omega)⟩
    have hxt : X.take (i + 1) = X.take i ++ [x] := by
      rw [List.take_succ_eq_append_getElem hlt]; rw [List.drop_eq_getElem_cons hlt] at hx; cases hx; rfl
    have hyt : Y.take (i + 1) = Y.take i ++ [y] := by
      have hlt' : i < Y.length := by omega
      rw [List.take_succ_eq_append_getElem hlt']; rw [List.drop_eq_getElem_cons hlt'] at hy; cases hy; rfl
    have e1 : A ++ ((Y.take i ++ X.drop i) ++ (C ++ ((X.take i ++ Y.drop i) ++ B))) = (A ++ Y.take i) ++ x :: ((X.drop (i + 1) ++ (C ++ X.take i)) ++ y :: (Y.drop (i + 1) ++ B)) := by
      rw [hx, hy]; simp
    have e2 : A ++ ((Y.take (i + 1) ++ X.drop (i + 1)) ++ (C ++ ((X.take (i + 1) ++ Y.drop (i + 1)) ++ B))) = (A ++ Y.take i) ++ y :: ((X.drop (i + 1) ++ (C ++ X.take i)) ++ x :: (Y.drop (i + 1) ++ B)) := by
      rw [hxt, hyt]; simp
    have hp1 : A.length + i = (A ++ Y.take i).length := by simp; omega
    have hq1 : A.length + X.length + C.length + i = (A ++ Y.take i).length + 1 + (X.drop (i + 1) ++ (C ++ X.take i)).length := by simp; omega
    have hsw := (swap_set (Q1 := A ++ Y.take i) (Q2 := X.drop (i + 1) ++ (C ++ X.take i)) (Q3 := Y.drop (i + 1) ++ B) (x := x) (y := y) hp1 hq1).1
    rw [← e2, ← e1] at hsw
    have gx : (A ++ ((Y.take i ++ X.drop i) ++ (C ++ ((X.take i ++ Y.drop i) ++ B))))[A.length + i]? = some x := by rw [e1]; exact at_mid hp1
    have gy : (A ++ ((Y.take i ++ X.drop i) ++ (C ++ ((X.take i ++ Y.drop i) ++ B))))[A.length + X.length + C.length + i]? = some y := by
      rw [e1, List.getElem?_append_right (by omega)]
      rw [show A.length + X.length + C.length + i - (A ++ Y.take i).length = (X.drop (i + 1) ++ (C ++ X.take i)).length + 1 by omega, List.getElem?_cons_succ]
      exact at_mid rfl
    clear e1 e2
    generalize hcur : A ++ ((Y.take i ++ X.drop i) ++ (C ++ ((X.take i ++ Y.drop i) ++ B))) = cur at *
    have hcl : cur.length = N := by rw [← hcur]; simp; omega
    have hb1 : A.length + i < cur.length := by omega
    have hb2 : A.length + X.length + C.length + i < (cur.set (A.length + i) y).length := by rw [List.length_set]; omega
    clear hcur
    refine Cd.seq ?_
    refine Cd.seq ?_
    refine Cd.region ?_
    refine Seg.step rfl rfl (Yd.move rfl) ?_
    refine Seg.step rfl rfl (Yd.move rfl) ?_
    refine Seg.step rfl rfl (Yd.lss rfl rfl) ?_
    refine Seg.nil ?_
    refine At.then_ ?_
    refine Cd.condk rfl (fun h11 => ?_) (fun h11 => ?_)
    · refine Cd.skip ?_
      refine At.then_ ?_
      refine Cd.seq ?_
      refine Cd.block ?_
      refine Cd.anyE (by kernel_rfl) (fun w17 hE17 => ?_)
      replace hWr := Wr.trans hWr (Ext.wr hE17 _)
      replace hB := hB.ext hE17
      refine SegA.pure 0 rfl (by kernel_rfl) (by kernel_rfl) (by kernel_rfl) rfl rfl (fun _ => Yd.move rfl) ?_
      refine SegA.pure 1 rfl (by kernel_rfl) (by kernel_rfl) (by kernel_rfl) rfl rfl (fun _ => Yd.move rfl) ?_
      refine SegA.pure 2 rfl (by kernel_rfl) (by kernel_rfl) (by kernel_rfl) rfl rfl (fun _ => Yd.move rfl) ?_
      refine SegA.pure 3 rfl (by kernel_rfl) (by kernel_rfl) (by kernel_rfl) rfl rfl (fun _ => Yd.addI rfl rfl (by omega)) ?_
      refine SegA.pure 4 rfl (by kernel_rfl) (by kernel_rfl) (by kernel_rfl) rfl rfl (fun _ => Yd.move rfl) ?_
      refine SegA.pure 5 rfl (by kernel_rfl) (by kernel_rfl) (by kernel_rfl) rfl rfl (fun _ => Yd.move rfl) ?_
      refine SegA.pure 6 rfl (by kernel_rfl) (by kernel_rfl) (by kernel_rfl) rfl rfl (fun _ => Yd.move rfl) ?_
      refine SegA.pure 7 rfl (by kernel_rfl) (by kernel_rfl) (by kernel_rfl) rfl rfl (fun _ => Yd.addI rfl rfl (by omega)) ?_
      refine SegA.pure 8 rfl (by kernel_rfl) (by kernel_rfl) (by kernel_rfl) rfl rfl (fun _ => Yd.move rfl) ?_
      refine SegA.pure 9 rfl (by kernel_rfl) (by kernel_rfl) (by kernel_rfl) rfl rfl (fun _ => Yd.move rfl) ?_
      refine SegA.pure 10 rfl (by kernel_rfl) (by kernel_rfl) (by kernel_rfl) rfl rfl (fun _ => Yd.move rfl) ?_
      refine SegA.pure 11 rfl (by kernel_rfl) (by kernel_rfl) (by kernel_rfl) rfl rfl (fun _ => Yd.addI rfl rfl (by omega)) ?_
      refine SegA.pure 12 rfl (by kernel_rfl) (by kernel_rfl) (by kernel_rfl) rfl rfl (fun _ => Yd.indexAddr rfl rfl rfl (NatOf.add (NatOf.cast _) (NatOf.cast _)) (by omega)) ?_
      refine SegA.pure 14 rfl (by kernel_rfl) (by kernel_rfl) (by kernel_rfl) rfl rfl (fun _ => Yd.move rfl) ?_
      refine SegA.pure 15 rfl (by kernel_rfl) (by kernel_rfl) (by kernel_rfl) rfl rfl (fun _ => Yd.move rfl) ?_
      refine SegA.pure 16 rfl (by kernel_rfl) (by kernel_rfl) (by kernel_rfl) rfl rfl (fun _ => Yd.move rfl) ?_
      refine SegA.pure 17 rfl (by kernel_rfl) (by kernel_rfl) (by kernel_rfl) rfl rfl (fun _ => Yd.addI rfl rfl (by omega)) ?_
      refine SegA.pure 18 rfl (by kernel_rfl) (by kernel_rfl) (by kernel_rfl) rfl rfl (fun _ => Yd.indexAddr rfl rfl rfl (NatOf.add (NatOf.cast _) (NatOf.cast _)) (by omega)) ?_
      refine SegA.held 21 ?_
      refine SegG.take 13 rfl (by kernel_rfl) (by kernel_rfl) (by kernel_rfl) (by kernel_rfl) (by kernel_rfl) rfl rfl (fun w' hw' => Yd.loadN rfl rfl rfl ((cur_row hB gy).ext hw')) ?_
      refine SegG.take 19 rfl (by kernel_rfl) (by kernel_rfl) (by kernel_rfl) (by kernel_rfl) (by kernel_rfl) rfl rfl (fun w' hw' => Yd.loadN rfl rfl rfl ((cur_row hB gx).ext hw')) ?_
      refine SegG.take 20 rfl (by kernel_rfl) (by kernel_rfl) (by kernel_rfl) (by kernel_rfl) (by kernel_rfl) rfl rfl (fun w' hw' => Yd.indexAddr rfl rfl rfl (NatOf.add (NatOf.cast _) (NatOf.cast _)) (by omega)) ?_
      refine SegG.oneSeg (o := ⟨_, _, _, _, _, _⟩) 21 rfl (by kernel_rfl) ?_
      (refine Seg.storeMid rfl rfl rfl rfl hB (room hb1) (celOneA y) (fun w41 hW41 hB41 => ?_); replace hB := cur_set hb1 hB41; clear hB41; replace hWr := hWr.trans hW41)
      refine SegG.end_ rfl ?_
      refine SegA.pure 22 rfl (by kernel_rfl) (by kernel_rfl) (by kernel_rfl) rfl rfl (fun _ => Yd.indexAddr rfl rfl rfl (NatOf.add (NatOf.cast _) (NatOf.cast _)) (by omega)) ?_
      refine SegA.oneSeg (o := ⟨_, _, _, _, _, _⟩) 23 rfl (by kernel_rfl) ?_
      (refine Seg.storeMid rfl rfl rfl rfl hB (room hb2) (celOneA x) (fun w45 hW45 hB45 => ?_); replace hB := cur_set hb2 hB45; clear hB45; replace hWr := hWr.trans hW45)
      refine SegA.back ?_
      refine SegA.done (by kernel_rfl) ?_
      refine At.blk ?_
      refine At.then_ ?_
      refine Cd.region ?_
      refine Seg.step rfl rfl (Yd.move rfl) ?_
      refine Seg.step rfl rfl (Yd.addI rfl rfl (by omega)) ?_
      refine Seg.step rfl rfl (Yd.assign rfl) ?_
      refine Seg.nil ?_
      exact At.round (i + 1) (.cons rfl (.cons rfl (.cons rfl (.cons rfl (.cons rfl (.nil _)))))) ⟨hlt, hsw ▸ hB, hWr⟩ (by show _ - _ < _ - _; omega)
    · exfalso; omega
  · obtain rfl : i = X.length := by omega
    refine Cd.seq ?_
    refine Cd.seq ?_
    refine Cd.region ?_
    refine Seg.step rfl rfl (Yd.move rfl) ?_
    refine Seg.step rfl rfl (Yd.move rfl) ?_
    refine Seg.step rfl rfl (Yd.lss rfl rfl) ?_
    refine Seg.nil ?_
    refine At.then_ ?_
    refine Cd.condk rfl (fun h9 => ?_) (fun h9 => ?_)
    · exfalso; omega
    · refine Cd.exit ?_
      refine At.then_exit ?_
      refine At.then_exit ?_
      refine At.blk_same ?_
      exact At.fin Try.results42 .nil ⟨by simpa [List.take_of_length_le, List.drop_of_length_le, hl] using hB, hWr⟩
structure RotS where
  A : List El
  X : List El
  Y : List El
  B : List El
  i : Int
  j : Int
set_option maxHeartbeats 400000 in
theorem rot_any (A U V B : List El) (zs : List Value) (b N cap : Nat) (p q r : Int) (w : World) (hU : 0 < U.length) (hV : 0 < V.length) (hN : N = (A ++ (U ++ (V ++ B))).length) (hN' : N ≤ 1000000) (hB : Bx w b ((A ++ (U ++ (V ++ B))).flatMap cel ++ zs))
    (hp : p = (A.length : Nat)) (hq : q = ((A.length + U.length : Nat) : Int)) (hr : r = ((A.length + U.length + V.length : Nat) : Int)) :
    Ret Try.prog 39 #[dataV b N cap, .int .i64 p, .int .i64 q, .int .i64 r, cmpV] w fun _ w' => Bx w' b ((A ++ (V ++ (U ++ B))).flatMap cel ++ zs) ∧ Wr b w w' := by
  subst hp; subst hq; subst hr
  have hWr : Wr b w w := (Ext.refl w).wr b
  have hlen : N = A.length + U.length + V.length + B.length := by rw [hN]; simp; omega
  refine Ret.body Try.func39 rfl Try.ntmps39 rfl ?_
  refine Cd.seq ?_
  refine Cd.region ?_
  refine Seg.step rfl rfl (Yd.move rfl) ?_
  refine Seg.step rfl rfl (Yd.move rfl) ?_
  refine Seg.step rfl rfl (Yd.subI rfl rfl (by omega)) ?_
  refine Seg.step rfl rfl (Yd.assign rfl) ?_
  refine Seg.nil ?_
  refine At.then_ ?_
  refine Cd.seq ?_
  refine Cd.region ?_
  refine Seg.step rfl rfl (Yd.move rfl) ?_
  refine Seg.step rfl rfl (Yd.move rfl) ?_
  refine Seg.step rfl rfl (Yd.subI rfl rfl (by omega)) ?_
  refine Seg.step rfl rfl (Yd.assign rfl) ?_
  refine Seg.nil ?_
  refine At.then_ ?_
  refine Cd.seq ?_
  refine Cd.block ?_
  refine Cd.loop (σ := RotS) (fun s => [(0, dataV b N cap), (2, .int .i64 ((A.length + U.length : Nat) : Int)), (4, cmpV), (10, .int .i64 s.i), (11, .int .i64 s.j)])
    (fun s w' => s.A ++ (s.Y ++ (s.X ++ s.B)) = A ++ (V ++ (U ++ B)) ∧ s.A.length + s.X.length = A.length + U.length ∧ (0 < s.X.length ∧ 0 < s.Y.length ∧ s.i = (s.X.length : Nat) ∧ s.j = (s.Y.length : Nat)) ∧ Bx w' b ((s.A ++ (s.X ++ (s.Y ++ s.B))).flatMap cel ++ zs) ∧ Wr b w w')
    (fun s => s.X.length + s.Y.length) ⟨A, U, V, B, _, _⟩ (.cons rfl (.cons rfl (.cons rfl (.cons rfl (.cons rfl (.nil _)))))) ⟨rfl, rfl, ⟨hU, hV, by show (((A.length + U.length : Nat) : Int) - (A.length : Nat)) = (U.length : Nat); omega, by show (((A.length + U.length + V.length : Nat) : Int) - ((A.length + U.length : Nat) : Int)) = (V.length : Nat); omega⟩, hB, hWr⟩ ?_
  clear hWr hB
  rintro ⟨A1, X, Y, B1, ii, jj⟩ w0 ⟨ht, hm, ⟨hX, hY, hii, hjj⟩, hB, hWr⟩
  simp only at ht hm hX hY hB hii hjj ⊢
  have hl1 := congrArg List.length ht
  simp only [List.length_append] at hl1
  rcases Nat.lt_trichotomy X.length Y.length with hlt | heq | hgt
  · have hs : Y = Y.take (Y.length - X.length) ++ Y.drop (Y.length - X.length) := (List.take_append_drop _ _).symm
    generalize hY1 : Y.take (Y.length - X.length) = Y1 at hs
    generalize hY2 : Y.drop (Y.length - X.length) = Y2 at hs
    have hy1 : Y1.length = Y.length - X.length := by rw [← hY1, List.length_take]; omega
    have hy2 : Y2.length = X.length := by rw [← hY2, List.length_drop]; omega
    clear hY1 hY2
    subst hs
    rw [List.length_append] at *
    have hB' : Bx w0 b ((A1 ++ (X ++ (Y1 ++ (Y2 ++ B1)))).flatMap cel ++ zs) := by simpa using hB
    clear hB
    refine Cd.seq ?_
    refine Cd.seq ?_
    refine Cd.region ?_
    refine Seg.step rfl rfl (Yd.move rfl) ?_
    refine Seg.step rfl rfl (Yd.move rfl) ?_
    refine Seg.step rfl rfl (Yd.neq rfl rfl) ?_
    refine Seg.nil ?_
    refine At.then_ ?_
    refine Cd.condk rfl (fun h11 => ?_) (fun h11 => ?_)
    · refine Cd.skip ?_
      refine At.then_ ?_
      refine Cd.block ?_
      refine Cd.seq ?_
      refine Cd.region ?_
      refine Seg.step rfl rfl (Yd.move rfl) ?_
      refine Seg.step rfl rfl (Yd.move rfl) ?_
      refine Seg.step rfl rfl (Yd.gtr rfl rfl) ?_
      refine Seg.nil ?_
      refine At.then_ ?_
      refine Cd.condk rfl (fun h23 => ?_) (fun h23 => ?_)
      · exfalso; omega
      · refine Cd.seq ?_
        refine Cd.region ?_
        refine Seg.step rfl rfl (Yd.move rfl) ?_
        refine Seg.step rfl rfl (Yd.move rfl) ?_
        refine Seg.step rfl rfl (Yd.move rfl) ?_
        refine Seg.step rfl rfl (Yd.subI rfl rfl (by omega)) ?_
        refine Seg.step rfl rfl (Yd.move rfl) ?_
        refine Seg.step rfl rfl (Yd.move rfl) ?_
        refine Seg.step rfl rfl (Yd.addI rfl rfl (by omega)) ?_
        refine Seg.step rfl rfl (Yd.move rfl) ?_
        refine Seg.step rfl rfl (Yd.subI rfl rfl (by omega)) ?_
        refine Seg.step rfl rfl (Yd.move rfl) ?_
        refine Seg.step rfl rfl (Yd.move rfl) ?_
        (refine Seg.call rfl rfl (own_of rfl) rfl (swp_any A1 X Y1 Y2 B1 zs b N cap _ _ _ _ hy2.symm (by simp; omega) hN' hB' (by omega) (by omega) (by omega)) ?_; rintro _ w38 ⟨hB, hW38⟩; replace hWr := hWr.trans hW38)
        refine Seg.nil ?_
        refine At.then_ ?_
        refine Cd.region ?_
        refine Seg.step rfl rfl (Yd.move rfl) ?_
        refine Seg.step rfl rfl (Yd.move rfl) ?_
        refine Seg.step rfl rfl (Yd.subI rfl rfl (by omega)) ?_
        refine Seg.step rfl rfl (Yd.assign rfl) ?_
        refine Seg.nil ?_
        refine At.blk ?_
        exact At.round (⟨A1, Y2, Y1, X ++ B1, _, _⟩ : RotS) (.cons rfl (.cons rfl (.cons rfl (.cons rfl (.cons rfl (.nil _)))))) ⟨by rw [← ht]; simp, by show A1.length + Y2.length = A.length + U.length; omega, ⟨by show 0 < Y2.length; omega, by show 0 < Y1.length; omega, by show ii = ((Y2.length : Nat) : Int); omega, by show jj - ii = ((Y1.length : Nat) : Int); omega⟩, by simpa using hB, hWr⟩ (by show Y2.length + Y1.length < X.length + (Y1.length + Y2.length); omega)
    · exfalso; omega
  · refine Cd.seq ?_
    refine Cd.seq ?_
    refine Cd.region ?_
    refine Seg.step rfl rfl (Yd.move rfl) ?_
    refine Seg.step rfl rfl (Yd.move rfl) ?_
    refine Seg.step rfl rfl (Yd.neq rfl rfl) ?_
    refine Seg.nil ?_
    refine At.then_ ?_
    refine Cd.condk rfl (fun h10 => ?_) (fun h10 => ?_)
    · exfalso; omega
    · refine Cd.exit ?_
      refine At.then_exit ?_
      refine At.then_exit ?_
      refine At.blk_same ?_
      refine At.then_ ?_
      refine Cd.region ?_
      refine Seg.step rfl rfl (Yd.move rfl) ?_
      refine Seg.step rfl rfl (Yd.move rfl) ?_
      refine Seg.step rfl rfl (Yd.move rfl) ?_
      refine Seg.step rfl rfl (Yd.subI rfl rfl (by omega)) ?_
      refine Seg.step rfl rfl (Yd.move rfl) ?_
      refine Seg.step rfl rfl (Yd.move rfl) ?_
      refine Seg.step rfl rfl (Yd.move rfl) ?_
      (refine Seg.call rfl rfl (own_of rfl) rfl (swp_any A1 X [] Y B1 zs b N cap _ _ _ _ heq (by simp; omega) hN' (by simpa using hB) (by omega) (by simp; omega) (by omega)) ?_; rintro _ w25 ⟨hB, hW25⟩; replace hWr := hWr.trans hW25)
      refine Seg.nil ?_
      exact At.fin Try.results39 .nil ⟨by rw [← ht]; simpa using hB, hWr⟩
  · have hs : X = X.take Y.length ++ X.drop Y.length := (List.take_append_drop _ _).symm
    generalize hX1 : X.take Y.length = X1 at hs
    generalize hX2 : X.drop Y.length = X2 at hs
    have hx1 : X1.length = Y.length := by rw [← hX1, List.length_take]; omega
    have hx2 : X2.length = X.length - Y.length := by rw [← hX2, List.length_drop]
    clear hX1 hX2
    subst hs
    rw [List.length_append] at *
    have hB' : Bx w0 b ((A1 ++ (X1 ++ (X2 ++ (Y ++ B1)))).flatMap cel ++ zs) := by simpa using hB
    clear hB
    refine Cd.seq ?_
    refine Cd.seq ?_
    refine Cd.region ?_
    refine Seg.step rfl rfl (Yd.move rfl) ?_
    refine Seg.step rfl rfl (Yd.move rfl) ?_
    refine Seg.step rfl rfl (Yd.neq rfl rfl) ?_
    refine Seg.nil ?_
    refine At.then_ ?_
    refine Cd.condk rfl (fun h11 => ?_) (fun h11 => ?_)
    · refine Cd.skip ?_
      refine At.then_ ?_
      refine Cd.block ?_
      refine Cd.seq ?_
      refine Cd.region ?_
      refine Seg.step rfl rfl (Yd.move rfl) ?_
      refine Seg.step rfl rfl (Yd.move rfl) ?_
      refine Seg.step rfl rfl (Yd.gtr rfl rfl) ?_
      refine Seg.nil ?_
      refine At.then_ ?_
      refine Cd.condk rfl (fun h23 => ?_) (fun h23 => ?_)
      · refine Cd.seq ?_
        refine Cd.region ?_
        refine Seg.step rfl rfl (Yd.move rfl) ?_
        refine Seg.step rfl rfl (Yd.move rfl) ?_
        refine Seg.step rfl rfl (Yd.move rfl) ?_
        refine Seg.step rfl rfl (Yd.subI rfl rfl (by omega)) ?_
        refine Seg.step rfl rfl (Yd.move rfl) ?_
        refine Seg.step rfl rfl (Yd.move rfl) ?_
        refine Seg.step rfl rfl (Yd.move rfl) ?_
        (refine Seg.call rfl rfl (own_of rfl) rfl (swp_any A1 X1 X2 Y B1 zs b N cap _ _ _ _ hx1 (by simp; omega) hN' hB' (by omega) (by omega) (by omega)) ?_; rintro _ w34 ⟨hB, hW34⟩; replace hWr := hWr.trans hW34)
        refine Seg.nil ?_
        refine At.then_ ?_
        refine Cd.region ?_
        refine Seg.step rfl rfl (Yd.move rfl) ?_
        refine Seg.step rfl rfl (Yd.move rfl) ?_
        refine Seg.step rfl rfl (Yd.subI rfl rfl (by omega)) ?_
        refine Seg.step rfl rfl (Yd.assign rfl) ?_
        refine Seg.nil ?_
        refine At.blk ?_
        exact At.round (⟨A1 ++ Y, X2, X1, B1, _, _⟩ : RotS) (.cons rfl (.cons rfl (.cons rfl (.cons rfl (.cons rfl (.nil _)))))) ⟨by rw [← ht]; simp, by simp; omega, ⟨by show 0 < X2.length; omega, by show 0 < X1.length; omega, by show ii - jj = ((X2.length : Nat) : Int); omega, by show jj = ((X1.length : Nat) : Int); omega⟩, by simpa using hB, hWr⟩ (by show X2.length + X1.length < X1.length + X2.length + Y.length; omega)
      · exfalso; omega
    · exfalso; omega
end Go.Proofs.Ytccppgpedlfjdaa
