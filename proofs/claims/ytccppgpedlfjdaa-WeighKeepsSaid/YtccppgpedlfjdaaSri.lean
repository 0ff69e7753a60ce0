/- Stable sorting: the walk of the insertion sort. -/
import Derived.Test.YtccppgpedlfjdaaSrt
namespace Go.Proofs.Ytccppgpedlfjdaa
open Go Go.RowKit
structure InsS where
  P : List El
  R : List El
  i : Int
structure InnS where
  P1 : List El
  P2 : List El
  j : Int
theorem Wr.here {b : Nat} {w : World} : Wr b w w := (Ext.refl w).wr b
set_option maxHeartbeats 400000 in
theorem ins_any (A M B : List El) (zs : List Value) (b N cap : Nat) (p q : Int) (w : World) (hN : N = (A ++ (M ++ B)).length) (hN' : N ≤ 1000000) (hB : Bx w b ((A ++ (M ++ B)).flatMap cel ++ zs))
    (hp : p = (A.length : Nat)) (hq : q = ((A.length + M.length : Nat) : Int)) :
    Ret Try.prog 36 #[dataV b N cap, .int .i64 p, .int .i64 q, cmpV] w fun _ w' => ∃ Y, Bx w' b ((A ++ (Y ++ B)).flatMap cel ++ zs) ∧ Wr b w w' ∧ Srtd key Y ∧ SameBy key M Y := by
  have hlen : N = A.length + M.length + B.length := by rw [hN]; simp; omega
  have hWr : Wr b w w := Wr.here
  cases M with
  | nil =>
    have hq' : q = p := by rw [hq, hp]; simp
    refine Ret.body Try.func36 rfl Try.ntmps36 rfl ?_
    refine Cd.seq ?_
    refine Cd.region ?_
    refine Seg.step rfl rfl (Yd.move rfl) ?_
    refine Seg.step rfl rfl (Yd.addI rfl rfl (by omega)) ?_
    refine Seg.step rfl rfl (Yd.assign rfl) ?_
    refine Seg.nil ?_
    refine At.then_ ?_
    refine Cd.block ?_
    refine Cd.loop (σ := Unit) (fun _ => [(2, .int .i64 q), (8, .int .i64 (p + 1))]) (fun _ w' => w' = w) (fun _ => 0) () (.cons rfl (.cons rfl (.nil _))) rfl ?_
    rintro _ _ rfl
    refine Cd.seq ?_
    refine Cd.seq ?_
    refine Cd.region ?_
    refine Seg.step rfl rfl (Yd.move rfl) ?_
    refine Seg.step rfl rfl (Yd.move rfl) ?_
    refine Seg.step rfl rfl (Yd.lss rfl rfl) ?_
    refine Seg.nil ?_
    refine At.then_ ?_
    refine Cd.condk rfl (fun h9 => ?_) (fun h9 => ?_)
    · exfalso; omega
    · refine Cd.exit ?_
      refine At.then_exit ?_
      refine At.then_exit ?_
      refine At.blk_same ?_
      exact At.fin Try.results36 .nil ⟨[], hB, hWr, List.Pairwise.nil, SameBy.refl _⟩
  | cons m M =>
    rw [List.length_cons] at hq hlen
    refine Ret.body Try.func36 rfl Try.ntmps36 rfl ?_
    refine Cd.seq ?_
    refine Cd.region ?_
    refine Seg.step rfl rfl (Yd.move rfl) ?_
    refine Seg.step rfl rfl (Yd.addI rfl rfl (by omega)) ?_
    refine Seg.step rfl rfl (Yd.assign rfl) ?_
    refine Seg.nil ?_
    refine At.then_ ?_
    refine Cd.block ?_
    refine Cd.loop (σ := InsS) (fun s => [(0, dataV b N cap), (1, .int .i64 p), (2, .int .i64 q), (3, cmpV), (8, .int .i64 s.i)])
      (fun s w' => (s.P.length + s.R.length = M.length + 1 ∧ 0 < s.P.length ∧ s.i = ((A.length + s.P.length : Nat) : Int)) ∧ Srtd key s.P ∧ SameBy key (m :: M) (s.P ++ s.R) ∧ Bx w' b ((A ++ (s.P ++ (s.R ++ B))).flatMap cel ++ zs) ∧ Wr b w w')
      (fun s => s.R.length) ⟨[m], M, _⟩ (.cons rfl (.cons rfl (.cons rfl (.cons rfl (.cons rfl (.nil _)))))) ⟨⟨by show 1 + M.length = _; omega, by simp, by show p + 1 = ((A.length + 1 : Nat) : Int); omega⟩, List.pairwise_singleton _ _, SameBy.refl _, by simpa using hB, hWr⟩ ?_
    clear hWr hB
    rintro ⟨P, R, ii⟩ w0 ⟨⟨hl1, hl2, hii⟩, hs, hsame, hB, hWr⟩
    simp only at hl1 hl2 hii hs hsame hB ⊢
    cases R with
    | nil =>
      have hl0 : P.length = M.length + 1 := by simpa using hl1
      refine Cd.seq ?_
      refine Cd.seq ?_
      refine Cd.region ?_
      refine Seg.step rfl rfl (Yd.move rfl) ?_
      refine Seg.step rfl rfl (Yd.move rfl) ?_
      refine Seg.step rfl rfl (Yd.lss rfl rfl) ?_
      refine Seg.nil ?_
      refine At.then_ ?_
      refine Cd.condk rfl (fun h11 => ?_) (fun h11 => ?_)
      · exfalso; omega
      · refine Cd.exit ?_
        refine At.then_exit ?_
        refine At.then_exit ?_
        refine At.blk_same ?_
        exact At.fin Try.results36 .nil ⟨P, by simpa using hB, hWr, hs, by simpa using hsame⟩
    | cons x R =>
      rw [List.length_cons] at hl1
      refine Cd.seq ?_
      refine Cd.seq ?_
      refine Cd.region ?_
      refine Seg.step rfl rfl (Yd.move rfl) ?_
      refine Seg.step rfl rfl (Yd.move rfl) ?_
      refine Seg.step rfl rfl (Yd.lss rfl rfl) ?_
      refine Seg.nil ?_
      refine At.then_ ?_
      refine Cd.condk rfl (fun h11 => ?_) (fun h11 => ?_)
      rotate_left 1
      · exfalso; omega
      rotate_right 1
      refine Cd.skip ?_
      refine At.then_ ?_
      refine Cd.seq ?_
      refine Cd.block ?_
      refine Cd.seq ?_
      refine Cd.region ?_
      refine Seg.step rfl rfl (Yd.move rfl) ?_
      refine Seg.step rfl rfl (Yd.assign rfl) ?_
      refine Seg.nil ?_
      refine At.then_ ?_
      refine Cd.block ?_
      refine Cd.loop (σ := InnS) (fun s => [(0, dataV b N cap), (1, .int .i64 p), (2, .int .i64 q), (3, cmpV), (8, .int .i64 ii), (9, .int .i64 s.j)])
        (fun s w' => (s.P1 ++ s.P2 = P ∧ s.j = ((A.length + s.P1.length : Nat) : Int)) ∧ (∀ y ∈ s.P2, key x < key y) ∧ Bx w' b ((A ++ (s.P1 ++ (x :: (s.P2 ++ (R ++ B))))).flatMap cel ++ zs) ∧ Wr b w w')
        (fun s => s.P1.length) ⟨P, [], _⟩ (.cons rfl (.cons rfl (.cons rfl (.cons rfl (.cons rfl (.cons rfl (.nil _))))))) ⟨⟨by simp, hii⟩, (fun _ h => by cases h), by simpa using hB, hWr⟩ ?_
      clear hWr hB
      rintro ⟨P1, P2, jj⟩ w0 ⟨⟨hP, hjj⟩, hgt, hB, hWr⟩
      simp only at hP hjj hgt hB ⊢
      have hPl := congrArg List.length hP
      rw [List.length_append] at hPl
      subst hP
      have hdone : (∀ y ∈ P1, key y ≤ key x) → Srtd key (P1 ++ x :: P2) ∧ SameBy key (m :: M) ((P1 ++ x :: P2) ++ R) := fun h => by
        obtain ⟨h1, h2⟩ := insert_done hs hgt h
        refine ⟨h1, hsame.trans ?_⟩
        have := h2.app (SameBy.refl (key := key) R)
        simpa using this
      rcases List.eq_nil_or_concat P1 with rfl | ⟨P1, y, rfl⟩
      · have hd := hdone (fun _ h => by cases h)
        have hl3 : P2.length + (R.length + 1) = M.length + 1 := by simpa using hl1
        have hii3 : ii = ((A.length + P2.length : Nat) : Int) := by simpa using hii
        have hjj' : jj = (A.length : Nat) := by simpa using hjj
        refine Cd.seq ?_
        refine Cd.seq ?_
        refine Cd.anyE (by kernel_rfl) (fun w14 hE14 => ?_)
        replace hWr := Wr.trans hWr (Ext.wr hE14 _)
        replace hB := hB.ext hE14
        refine SegA.pure 0 rfl (by kernel_rfl) (by kernel_rfl) (by kernel_rfl) rfl rfl (fun _ => Yd.move rfl) ?_
        refine SegA.pure 1 rfl (by kernel_rfl) (by kernel_rfl) (by kernel_rfl) rfl rfl (fun _ => Yd.move rfl) ?_
        refine SegA.pure 2 rfl (by kernel_rfl) (by kernel_rfl) (by kernel_rfl) rfl rfl (fun _ => Yd.gtr rfl rfl) ?_
        refine SegA.pure 3 rfl (by kernel_rfl) (by kernel_rfl) (by kernel_rfl) rfl rfl (fun _ => Yd.move rfl) ?_
        refine SegA.held 17 ?_
        refine SegG.gsplitp 4 rfl rfl rfl (fun h20 => ?_) (fun h20 => ?_)
        · exfalso; omega
        · refine SegG.skip 4 rfl (by kernel_rfl) (by kernel_rfl) (by kernel_rfl) (by kernel_rfl) (by kernel_rfl) rfl rfl ?_
          refine SegG.skip 5 rfl (by kernel_rfl) (by kernel_rfl) (by kernel_rfl) (by kernel_rfl) (by kernel_rfl) rfl rfl ?_
          refine SegG.skip 6 rfl (by kernel_rfl) (by kernel_rfl) (by kernel_rfl) (by kernel_rfl) (by kernel_rfl) rfl rfl ?_
          refine SegG.skip 7 rfl (by kernel_rfl) (by kernel_rfl) (by kernel_rfl) (by kernel_rfl) (by kernel_rfl) rfl rfl ?_
          refine SegG.skip 8 rfl (by kernel_rfl) (by kernel_rfl) (by kernel_rfl) (by kernel_rfl) (by kernel_rfl) rfl rfl ?_
          refine SegG.skip 9 rfl (by kernel_rfl) (by kernel_rfl) (by kernel_rfl) (by kernel_rfl) (by kernel_rfl) rfl rfl ?_
          refine SegG.skip 10 rfl (by kernel_rfl) (by kernel_rfl) (by kernel_rfl) (by kernel_rfl) (by kernel_rfl) rfl rfl ?_
          refine SegG.skip 11 rfl (by kernel_rfl) (by kernel_rfl) (by kernel_rfl) (by kernel_rfl) (by kernel_rfl) rfl rfl ?_
          refine SegG.skip 12 rfl (by kernel_rfl) (by kernel_rfl) (by kernel_rfl) (by kernel_rfl) (by kernel_rfl) rfl rfl ?_
          refine SegG.skip 13 rfl (by kernel_rfl) (by kernel_rfl) (by kernel_rfl) (by kernel_rfl) (by kernel_rfl) rfl rfl ?_
          refine SegG.skip 14 rfl (by kernel_rfl) (by kernel_rfl) (by kernel_rfl) (by kernel_rfl) (by kernel_rfl) rfl rfl ?_
          refine SegG.skip 15 rfl (by kernel_rfl) (by kernel_rfl) (by kernel_rfl) (by kernel_rfl) (by kernel_rfl) rfl rfl ?_
          refine SegG.take 16 rfl (by kernel_rfl) (by kernel_rfl) (by kernel_rfl) (by kernel_rfl) (by kernel_rfl) rfl rfl (fun w' hw' => Yd.pickF rfl rfl) ?_
          refine SegG.done (by kernel_rfl) ?_
          refine At.then_ ?_
          refine Cd.condF rfl ?_
          refine Cd.exit ?_
          refine At.then_exit ?_
          refine At.then_exit ?_
          refine At.blk_same ?_
          refine At.blk ?_
          refine At.then_ ?_
          refine Cd.region ?_
          refine Seg.step rfl rfl (Yd.move rfl) ?_
          refine Seg.step rfl rfl (Yd.addI rfl rfl (by omega)) ?_
          refine Seg.step rfl rfl (Yd.assign rfl) ?_
          refine Seg.nil ?_
          exact At.round (⟨[] ++ x :: P2, R, _⟩ : InsS) (.cons rfl (.cons rfl (.cons rfl (.cons rfl (.cons rfl (.nil _)))))) ⟨⟨by show (P2.length + 1) + R.length = M.length + 1; omega, by show 0 < P2.length + 1; omega, by show ii + 1 = ((A.length + (P2.length + 1) : Nat) : Int); omega⟩, hd.1, hd.2, by simpa using hB, hWr⟩ (by show R.length < R.length + 1; omega)
      · rw [List.concat_eq_append] at *
        rw [List.length_append, List.length_singleton] at hjj hPl
        have gx : (A ++ ((P1 ++ [y]) ++ (x :: (P2 ++ (R ++ B)))))[jj.toNat]? = some x := by
          rw [show A ++ ((P1 ++ [y]) ++ (x :: (P2 ++ (R ++ B)))) = (A ++ (P1 ++ [y])) ++ x :: (P2 ++ (R ++ B)) by simp]
          exact at_mid (by simp; omega)
        have gy : (A ++ ((P1 ++ [y]) ++ (x :: (P2 ++ (R ++ B)))))[jj.toNat - 1]? = some y := by
          rw [show A ++ ((P1 ++ [y]) ++ (x :: (P2 ++ (R ++ B)))) = (A ++ P1) ++ y :: (x :: (P2 ++ (R ++ B))) by simp]
          exact at_mid (by simp; omega)
        have hsw := (swap_set (Q1 := A ++ P1) (Q2 := []) (Q3 := P2 ++ (R ++ B)) (x := y) (y := x) (i := jj.toNat - 1) (j := jj.toNat) (by simp; omega) (by simp; omega)).2
        have e1 : A ++ ((P1 ++ [y]) ++ (x :: (P2 ++ (R ++ B)))) = (A ++ P1) ++ y :: ([] ++ x :: (P2 ++ (R ++ B))) := by simp
        have e2 : A ++ (P1 ++ (x :: ((y :: P2) ++ (R ++ B)))) = (A ++ P1) ++ x :: ([] ++ y :: (P2 ++ (R ++ B))) := by simp
        rw [← e1, ← e2] at hsw
        have hlast : ¬ key x < key y → ∀ z ∈ P1 ++ [y], key z ≤ key x := fun h z hz => by
          have h1 := (List.pairwise_append.1 (Srtd.left hs)).2.2
          rcases List.mem_append.1 hz with hz | hz
          · have := h1 z hz y (by simp); omega
          · cases List.mem_singleton.1 hz; omega
        clear e1 e2
        generalize hcur : A ++ ((P1 ++ [y]) ++ (x :: (P2 ++ (R ++ B)))) = cur at hB gx gy hsw
        have hcl : cur.length = N := by rw [← hcur, hlen]; simp; omega
        have hb1 : jj.toNat < cur.length := by omega
        have hb2 : jj.toNat - 1 < (cur.set jj.toNat y).length := by rw [List.length_set]; omega
        by_cases hlt : key x < key y
        · refine Cd.seq ?_
          refine Cd.seq ?_
          refine Cd.anyE (by kernel_rfl) (fun w14 hE14 => ?_)
          replace hWr := Wr.trans hWr (Ext.wr hE14 _)
          replace hB := hB.ext hE14
          refine SegA.pure 0 rfl (by kernel_rfl) (by kernel_rfl) (by kernel_rfl) rfl rfl (fun _ => Yd.move rfl) ?_
          refine SegA.pure 1 rfl (by kernel_rfl) (by kernel_rfl) (by kernel_rfl) rfl rfl (fun _ => Yd.move rfl) ?_
          refine SegA.pure 2 rfl (by kernel_rfl) (by kernel_rfl) (by kernel_rfl) rfl rfl (fun _ => Yd.gtr rfl rfl) ?_
          refine SegA.pure 3 rfl (by kernel_rfl) (by kernel_rfl) (by kernel_rfl) rfl rfl (fun _ => Yd.move rfl) ?_
          refine SegA.held 17 ?_
          refine SegG.gsplitp 4 rfl rfl rfl (fun h20 => ?_) (fun h20 => ?_)
          · refine SegG.take 4 rfl (by kernel_rfl) (by kernel_rfl) (by kernel_rfl) (by kernel_rfl) (by kernel_rfl) rfl rfl (fun w' hw' => Yd.move rfl) ?_
            refine SegG.take 5 rfl (by kernel_rfl) (by kernel_rfl) (by kernel_rfl) (by kernel_rfl) (by kernel_rfl) rfl rfl (fun w' hw' => Yd.move rfl) ?_
            refine SegG.take 6 rfl (by kernel_rfl) (by kernel_rfl) (by kernel_rfl) (by kernel_rfl) (by kernel_rfl) rfl rfl (fun w' hw' => Yd.move rfl) ?_
            refine SegG.take 7 rfl (by kernel_rfl) (by kernel_rfl) (by kernel_rfl) (by kernel_rfl) (by kernel_rfl) rfl rfl (fun w' hw' => Yd.indexAddr rfl rfl rfl (NatOf.self (by omega)) (by omega)) ?_
            refine SegG.take 8 rfl (by kernel_rfl) (by kernel_rfl) (by kernel_rfl) (by kernel_rfl) (by kernel_rfl) rfl rfl (fun w' hw' => Yd.loadN rfl rfl rfl ((cur_row hB gx).ext hw')) ?_
            refine SegG.take 9 rfl (by kernel_rfl) (by kernel_rfl) (by kernel_rfl) (by kernel_rfl) (by kernel_rfl) rfl rfl (fun w' hw' => Yd.move rfl) ?_
            refine SegG.take 10 rfl (by kernel_rfl) (by kernel_rfl) (by kernel_rfl) (by kernel_rfl) (by kernel_rfl) rfl rfl (fun w' hw' => Yd.move rfl) ?_
            refine SegG.take 11 rfl (by kernel_rfl) (by kernel_rfl) (by kernel_rfl) (by kernel_rfl) (by kernel_rfl) rfl rfl (fun w' hw' => Yd.subI rfl rfl (by omega)) ?_
            refine SegG.take 12 rfl (by kernel_rfl) (by kernel_rfl) (by kernel_rfl) (by kernel_rfl) (by kernel_rfl) rfl rfl (fun w' hw' => Yd.indexAddr rfl rfl rfl (NatOf.sub (NatOf.self (by omega)) (NatOf.cast 1) (by omega)) (by omega)) ?_
            refine SegG.take 13 rfl (by kernel_rfl) (by kernel_rfl) (by kernel_rfl) (by kernel_rfl) (by kernel_rfl) rfl rfl (fun w' hw' => Yd.loadN rfl rfl rfl ((cur_row hB gy).ext hw')) ?_
            refine SegG.oneSeg (o := ⟨_, _, _, _, _, _⟩) 14 rfl (by kernel_rfl) ?_
            (refine Seg.callv (first := []) rfl rfl rfl (own_of rfl) rfl (cmp_any x y _) ?_; rintro _ w33 ⟨⟨cc, rfl, hcc⟩, hE33⟩; have hc1 := hcc.2 hlt)
            replace hE14 := Ext.trans hE14 hE33
            replace hWr := Wr.trans hWr (Ext.wr hE33 _)
            replace hB := hB.ext hE33
            refine SegG.back rfl (by first | assumption | exact Ext.refl _) ?_
            refine SegG.take 15 rfl (by kernel_rfl) (by kernel_rfl) (by kernel_rfl) (by kernel_rfl) (by kernel_rfl) rfl rfl (fun w' hw' => Yd.lss rfl rfl) ?_
            refine SegG.take 16 rfl (by kernel_rfl) (by kernel_rfl) (by kernel_rfl) (by kernel_rfl) (by kernel_rfl) rfl rfl (fun w' hw' => Yd.pickT rfl rfl) ?_
            refine SegG.done (by kernel_rfl) ?_
            refine At.then_ ?_
            refine Cd.condk rfl (fun h39 => ?_) (fun h39 => ?_)
            · refine Cd.skip ?_
              refine At.then_ ?_
              refine Cd.seq ?_
              refine Cd.block ?_
              refine Cd.anyE (by kernel_rfl) (fun w45 hE45 => ?_)
              replace hE33 := Ext.trans hE33 hE45
              replace hE14 := Ext.trans hE14 hE45
              replace hWr := Wr.trans hWr (Ext.wr hE45 _)
              replace hB := hB.ext hE45
              refine SegA.pure 0 rfl (by kernel_rfl) (by kernel_rfl) (by kernel_rfl) rfl rfl (fun _ => Yd.move rfl) ?_
              refine SegA.pure 1 rfl (by kernel_rfl) (by kernel_rfl) (by kernel_rfl) rfl rfl (fun _ => Yd.move rfl) ?_
              refine SegA.pure 2 rfl (by kernel_rfl) (by kernel_rfl) (by kernel_rfl) rfl rfl (fun _ => Yd.move rfl) ?_
              refine SegA.pure 3 rfl (by kernel_rfl) (by kernel_rfl) (by kernel_rfl) rfl rfl (fun _ => Yd.move rfl) ?_
              refine SegA.pure 4 rfl (by kernel_rfl) (by kernel_rfl) (by kernel_rfl) rfl rfl (fun _ => Yd.subI rfl rfl (by omega)) ?_
              refine SegA.pure 5 rfl (by kernel_rfl) (by kernel_rfl) (by kernel_rfl) rfl rfl (fun _ => Yd.move rfl) ?_
              refine SegA.pure 6 rfl (by kernel_rfl) (by kernel_rfl) (by kernel_rfl) rfl rfl (fun _ => Yd.move rfl) ?_
              refine SegA.pure 7 rfl (by kernel_rfl) (by kernel_rfl) (by kernel_rfl) rfl rfl (fun _ => Yd.subI rfl rfl (by omega)) ?_
              refine SegA.pure 8 rfl (by kernel_rfl) (by kernel_rfl) (by kernel_rfl) rfl rfl (fun _ => Yd.indexAddr rfl rfl rfl (NatOf.sub (NatOf.self (by omega)) (NatOf.cast 1) (by omega)) (by omega)) ?_
              refine SegA.pure 10 rfl (by kernel_rfl) (by kernel_rfl) (by kernel_rfl) rfl rfl (fun _ => Yd.move rfl) ?_
              refine SegA.pure 11 rfl (by kernel_rfl) (by kernel_rfl) (by kernel_rfl) rfl rfl (fun _ => Yd.move rfl) ?_
              refine SegA.pure 12 rfl (by kernel_rfl) (by kernel_rfl) (by kernel_rfl) rfl rfl (fun _ => Yd.indexAddr rfl rfl rfl (NatOf.self (by omega)) (by omega)) ?_
              refine SegA.held 15 ?_
              refine SegG.take 9 rfl (by kernel_rfl) (by kernel_rfl) (by kernel_rfl) (by kernel_rfl) (by kernel_rfl) rfl rfl (fun w' hw' => Yd.loadN rfl rfl rfl ((cur_row hB gy).ext hw')) ?_
              refine SegG.take 13 rfl (by kernel_rfl) (by kernel_rfl) (by kernel_rfl) (by kernel_rfl) (by kernel_rfl) rfl rfl (fun w' hw' => Yd.loadN rfl rfl rfl ((cur_row hB gx).ext hw')) ?_
              refine SegG.take 14 rfl (by kernel_rfl) (by kernel_rfl) (by kernel_rfl) (by kernel_rfl) (by kernel_rfl) rfl rfl (fun w' hw' => Yd.indexAddr rfl rfl rfl (NatOf.self (by omega)) (by omega)) ?_
              refine SegG.oneSeg (o := ⟨_, _, _, _, _, _⟩) 15 rfl (by kernel_rfl) ?_
              (refine Seg.storeMid rfl rfl rfl rfl hB (room hb1) (celOneA y) (fun w63 hW63 hB63 => ?_); replace hB := cur_set hb1 hB63; clear hB63; replace hWr := hWr.trans hW63)
              refine SegG.end_ rfl ?_
              refine SegA.pure 16 rfl (by kernel_rfl) (by kernel_rfl) (by kernel_rfl) rfl rfl (fun _ => Yd.indexAddr rfl rfl rfl (NatOf.sub (NatOf.self (by omega)) (NatOf.cast 1) (by omega)) (by omega)) ?_
              refine SegA.oneSeg (o := ⟨_, _, _, _, _, _⟩) 17 rfl (by kernel_rfl) ?_
              (refine Seg.storeMid rfl rfl rfl rfl hB (room hb2) (celOneA x) (fun w67 hW67 hB67 => ?_); replace hB := cur_set hb2 hB67; clear hB67; replace hWr := hWr.trans hW67)
              refine SegA.back ?_
              refine SegA.done (by kernel_rfl) ?_
              refine At.blk ?_
              refine At.then_ ?_
              refine Cd.region ?_
              refine Seg.step rfl rfl (Yd.move rfl) ?_
              refine Seg.step rfl rfl (Yd.subI rfl rfl (by omega)) ?_
              refine Seg.step rfl rfl (Yd.assign rfl) ?_
              refine Seg.nil ?_
              exact At.round (⟨P1, y :: P2, _⟩ : InnS) (.cons rfl (.cons rfl (.cons rfl (.cons rfl (.cons rfl (.cons rfl (.nil _))))))) ⟨⟨by simp, by show jj - 1 = ((A.length + P1.length : Nat) : Int); omega⟩, (fun z hz => by rcases List.mem_cons.1 hz with rfl | hz; (exact hlt); (exact hgt z hz)), hsw ▸ hB, hWr⟩ (by show P1.length < (P1 ++ [y]).length; simp)
            · exfalso; omega
          · exfalso; omega
        · have hd := hdone (hlast hlt)
          have hl3 : P1.length + 1 + P2.length + (R.length + 1) = M.length + 1 := by rw [hPl]; exact hl1
          have hii3 : ii = ((A.length + (P1.length + 1 + P2.length) : Nat) : Int) := by rw [hPl]; exact hii
          have hl4 : ((P1 ++ [y]) ++ x :: P2).length = P1.length + 1 + P2.length + 1 := by simp; omega
          refine Cd.seq ?_
          refine Cd.seq ?_
          refine Cd.anyE (by kernel_rfl) (fun w14 hE14 => ?_)
          replace hWr := Wr.trans hWr (Ext.wr hE14 _)
          replace hB := hB.ext hE14
          refine SegA.pure 0 rfl (by kernel_rfl) (by kernel_rfl) (by kernel_rfl) rfl rfl (fun _ => Yd.move rfl) ?_
          refine SegA.pure 1 rfl (by kernel_rfl) (by kernel_rfl) (by kernel_rfl) rfl rfl (fun _ => Yd.move rfl) ?_
          refine SegA.pure 2 rfl (by kernel_rfl) (by kernel_rfl) (by kernel_rfl) rfl rfl (fun _ => Yd.gtr rfl rfl) ?_
          refine SegA.pure 3 rfl (by kernel_rfl) (by kernel_rfl) (by kernel_rfl) rfl rfl (fun _ => Yd.move rfl) ?_
          refine SegA.held 17 ?_
          refine SegG.gsplitp 4 rfl rfl rfl (fun h20 => ?_) (fun h20 => ?_)
          · refine SegG.take 4 rfl (by kernel_rfl) (by kernel_rfl) (by kernel_rfl) (by kernel_rfl) (by kernel_rfl) rfl rfl (fun w' hw' => Yd.move rfl) ?_
            refine SegG.take 5 rfl (by kernel_rfl) (by kernel_rfl) (by kernel_rfl) (by kernel_rfl) (by kernel_rfl) rfl rfl (fun w' hw' => Yd.move rfl) ?_
            refine SegG.take 6 rfl (by kernel_rfl) (by kernel_rfl) (by kernel_rfl) (by kernel_rfl) (by kernel_rfl) rfl rfl (fun w' hw' => Yd.move rfl) ?_
            refine SegG.take 7 rfl (by kernel_rfl) (by kernel_rfl) (by kernel_rfl) (by kernel_rfl) (by kernel_rfl) rfl rfl (fun w' hw' => Yd.indexAddr rfl rfl rfl (NatOf.self (by omega)) (by omega)) ?_
            refine SegG.take 8 rfl (by kernel_rfl) (by kernel_rfl) (by kernel_rfl) (by kernel_rfl) (by kernel_rfl) rfl rfl (fun w' hw' => Yd.loadN rfl rfl rfl ((cur_row hB gx).ext hw')) ?_
            refine SegG.take 9 rfl (by kernel_rfl) (by kernel_rfl) (by kernel_rfl) (by kernel_rfl) (by kernel_rfl) rfl rfl (fun w' hw' => Yd.move rfl) ?_
            refine SegG.take 10 rfl (by kernel_rfl) (by kernel_rfl) (by kernel_rfl) (by kernel_rfl) (by kernel_rfl) rfl rfl (fun w' hw' => Yd.move rfl) ?_
            refine SegG.take 11 rfl (by kernel_rfl) (by kernel_rfl) (by kernel_rfl) (by kernel_rfl) (by kernel_rfl) rfl rfl (fun w' hw' => Yd.subI rfl rfl (by omega)) ?_
            refine SegG.take 12 rfl (by kernel_rfl) (by kernel_rfl) (by kernel_rfl) (by kernel_rfl) (by kernel_rfl) rfl rfl (fun w' hw' => Yd.indexAddr rfl rfl rfl (NatOf.sub (NatOf.self (by omega)) (NatOf.cast 1) (by omega)) (by omega)) ?_
            refine SegG.take 13 rfl (by kernel_rfl) (by kernel_rfl) (by kernel_rfl) (by kernel_rfl) (by kernel_rfl) rfl rfl (fun w' hw' => Yd.loadN rfl rfl rfl ((cur_row hB gy).ext hw')) ?_
            refine SegG.oneSeg (o := ⟨_, _, _, _, _, _⟩) 14 rfl (by kernel_rfl) ?_
            (refine Seg.callv (first := []) rfl rfl rfl (own_of rfl) rfl (cmp_any x y _) ?_; rintro _ w33 ⟨⟨cc, rfl, hcc⟩, hE33⟩; have hc1 : ¬ cc < 0 := fun h => hlt (hcc.1 h))
            replace hE14 := Ext.trans hE14 hE33
            replace hWr := Wr.trans hWr (Ext.wr hE33 _)
            replace hB := hB.ext hE33
            refine SegG.back rfl (by first | assumption | exact Ext.refl _) ?_
            refine SegG.take 15 rfl (by kernel_rfl) (by kernel_rfl) (by kernel_rfl) (by kernel_rfl) (by kernel_rfl) rfl rfl (fun w' hw' => Yd.lss rfl rfl) ?_
            refine SegG.take 16 rfl (by kernel_rfl) (by kernel_rfl) (by kernel_rfl) (by kernel_rfl) (by kernel_rfl) rfl rfl (fun w' hw' => Yd.pickT rfl rfl) ?_
            refine SegG.done (by kernel_rfl) ?_
            refine At.then_ ?_
            refine Cd.condk rfl (fun h39 => ?_) (fun h39 => ?_)
            · exfalso; omega
            · refine Cd.exit ?_
              refine At.then_exit ?_
              refine At.then_exit ?_
              refine At.blk_same ?_
              refine At.blk ?_
              refine At.then_ ?_
              refine Cd.region ?_
              refine Seg.step rfl rfl (Yd.move rfl) ?_
              refine Seg.step rfl rfl (Yd.addI rfl rfl (by omega)) ?_
              refine Seg.step rfl rfl (Yd.assign rfl) ?_
              refine Seg.nil ?_
              exact At.round (⟨(P1 ++ [y]) ++ x :: P2, R, _⟩ : InsS) (.cons rfl (.cons rfl (.cons rfl (.cons rfl (.cons rfl (.nil _)))))) ⟨⟨by show ((P1 ++ [y]) ++ x :: P2).length + R.length = M.length + 1; omega, by show 0 < ((P1 ++ [y]) ++ x :: P2).length; omega, by show ii + 1 = (((A.length + ((P1 ++ [y]) ++ x :: P2).length : Nat)) : Int); omega⟩, hd.1, hd.2, by (rw [← hcur] at hB); simpa using hB, hWr⟩ (by show R.length < R.length + 1; omega)
          · exfalso; omega
end Go.Proofs.Ytccppgpedlfjdaa
