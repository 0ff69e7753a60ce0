/- Stable sorting: the walk of symMerge where one of the two halves is one element. -/
import Derived.Test.YtccppgpedlfjdaaSri
namespace Go.Proofs.Ytccppgpedlfjdaa
open Go Go.RowKit
theorem u64_idS {i : Int} (h : 0 ≤ i ∧ i ≤ 9223372036854775807) : IntKind.u64.wrap i = i := IntWalk.u64_in i (by omega)
theorem Yd.shr1 {P : Program} {n : Nat} {fr : Fr} {w : World} {T U U' : TypeId} {x y : Operand} {i : Int} {k' : IntKind} (hx : Fr.ev fr x = some (.int .u64 i)) (hy : Fr.ev fr y = some (.int k' 1)) : Yd P n (.binOp .shr U x y U') T fr w (.int .u64 (i / 2)) w :=
  .bin hx hy eqGuard_int (by simp [binOp, Op.shift, IntKind.bits, Int.fdiv_eq_ediv_of_nonneg])
structure Bin where
  i : Int
  j : Int
structure Shf where
  S1 : List El
  S2 : List El
  k : Int
set_option maxHeartbeats 400000 in
theorem sym_left (A : List El) (x : El) (R B : List El) (zs : List Value) (b N cap : Nat) (p q r : Int) (w : World) (hR : 0 < R.length) (hs : Srtd key R) (hN : N = (A ++ (x :: (R ++ B))).length) (hN' : N ≤ 1000000) (hB : Bx w b ((A ++ (x :: (R ++ B))).flatMap cel ++ zs))
    (hp : p = (A.length : Nat)) (hq : q = ((A.length + 1 : Nat) : Int)) (hr : r = ((A.length + 1 + R.length : Nat) : Int)) :
    Ret Try.prog 37 #[dataV b N cap, .int .i64 p, .int .i64 q, .int .i64 r, cmpV] w fun _ w' => ∃ Y, Bx w' b ((A ++ (Y ++ B)).flatMap cel ++ zs) ∧ Wr b w w' ∧ Srtd key Y ∧ SameBy key (x :: R) Y := by
  have hlen : N = A.length + 1 + R.length + B.length := by rw [hN]; simp; omega
  have hWr : Wr b w w := Wr.here
  refine Ret.body Try.func37 rfl Try.ntmps37 rfl ?_
  refine Cd.seq ?_
  refine Cd.seq ?_
  refine Cd.region ?_
  refine Seg.step rfl rfl (Yd.move rfl) ?_
  refine Seg.step rfl rfl (Yd.move rfl) ?_
  refine Seg.step rfl rfl (Yd.subI rfl rfl (by omega)) ?_
  refine Seg.step rfl rfl (Yd.eql rfl rfl) ?_
  refine Seg.nil ?_
  refine At.then_ ?_
  refine Cd.condk rfl (fun h10 => ?_) (fun h10 => ?_)
  rotate_left 1
  · exfalso; omega
  rotate_right 1
  refine Cd.seq ?_
  refine Cd.region ?_
  refine Seg.step rfl rfl (Yd.move rfl) ?_
  refine Seg.step rfl rfl (Yd.assign rfl) ?_
  refine Seg.nil ?_
  refine At.then_ ?_
  refine Cd.seq ?_
  refine Cd.region ?_
  refine Seg.step rfl rfl (Yd.move rfl) ?_
  refine Seg.step rfl rfl (Yd.assign rfl) ?_
  refine Seg.nil ?_
  refine At.then_ ?_
  refine Cd.seq ?_
  refine Cd.block ?_
  refine Cd.loop (σ := Bin) (fun s => [(0, dataV b N cap), (1, .int .i64 p), (2, .int .i64 q), (3, .int .i64 r), (4, cmpV), (10, .int .i64 s.i), (11, .int .i64 s.j)])
    (fun s w' => (q ≤ s.i ∧ s.i ≤ s.j ∧ s.j ≤ r) ∧ (∀ (c : Nat) y, (c : Int) + q < s.i → R[c]? = some y → key y < key x) ∧ (∀ (c : Nat) y, s.j ≤ (c : Int) + q → R[c]? = some y → ¬ key y < key x) ∧ Bx w' b ((A ++ (x :: (R ++ B))).flatMap cel ++ zs) ∧ Wr b w w')
    (fun s => (s.j - s.i).toNat) ⟨q, r⟩ (.cons rfl (.cons rfl (.cons rfl (.cons rfl (.cons rfl (.cons rfl (.cons rfl (.nil _)))))))) ⟨⟨Int.le_refl _, by show q ≤ r; omega, Int.le_refl _⟩, (fun c y h _ => by have h' : (c : Int) + q < q := h; exact absurd h' (by omega)), (fun c y h hc => by have h1 : r ≤ (c : Int) + q := h; have h2 := (List.getElem?_eq_some_iff.1 hc).1; exact absurd h1 (by omega)), hB, hWr⟩ ?_
  clear hB hWr
  rintro ⟨i, j⟩ w0 ⟨⟨hi1, hi2, hi3⟩, hlo, hhi, hB, hWr⟩
  simp only at hi1 hi2 hi3 hlo hhi hB ⊢
  have hm : 0 ≤ i + j ∧ i + j ≤ 9223372036854775807 := by omega
  by_cases hlt : i < j
  · have hh : i ≤ (i + j) / 2 ∧ (i + j) / 2 < j := by omega
    obtain ⟨h, hhv⟩ : ∃ h, h = (i + j) / 2 := ⟨_, rfl⟩
    obtain ⟨y, hy⟩ : ∃ y, R[(h - q).toNat]? = some y := ⟨_, List.getElem?_eq_getElem (by omega)⟩
    have gy : (A ++ (x :: (R ++ B)))[((i + j) / 2).toNat]? = some y := by
      rw [← hhv, List.getElem?_append_right (by omega), show h.toNat - A.length = (h - q).toNat + 1 by omega, List.getElem?_cons_succ, List.getElem?_append_left (by omega)]
      exact hy
    have gx : (A ++ (x :: (R ++ B)))[p.toNat]? = some x := at_mid (by omega)
    have hB2 := hB
    generalize hcur : A ++ (x :: (R ++ B)) = cur at hB2 gx gy
    have hcl : cur.length = N := by rw [← hcur, hN]
    have hlo' : key y < key x → ∀ (c : Nat) z, (c : Int) + q < (i + j) / 2 + 1 → R[c]? = some z → key z < key x := fun hk c z hc hz => by
      have := hs.get hz hy (by omega); omega
    have hhi' : ¬ key y < key x → ∀ (c : Nat) z, (i + j) / 2 ≤ (c : Int) + q → R[c]? = some z → ¬ key z < key x := fun hk c z hc hz => by
      have := hs.get hy hz (by omega); omega
    by_cases hk : key y < key x
    · refine Cd.seq ?_
      refine Cd.seq ?_
      refine Cd.region ?_
      refine Seg.step rfl rfl (Yd.move rfl) ?_
      refine Seg.step rfl rfl (Yd.move rfl) ?_
      refine Seg.step rfl rfl (Yd.lss rfl rfl) ?_
      refine Seg.nil ?_
      refine At.then_ ?_
      refine Cd.condk rfl (fun h19 => ?_) (fun h19 => ?_)
      · refine Cd.skip ?_
        refine At.then_ ?_
        refine Cd.block ?_
        refine Cd.seq ?_
        refine Cd.region ?_
        refine Seg.step rfl rfl (Yd.move rfl) ?_
        refine Seg.step rfl rfl (Yd.move rfl) ?_
        refine Seg.step rfl rfl (Yd.addI rfl rfl (by omega)) ?_
        refine Seg.step rfl rfl (Yd.convN rfl rfl rfl (u64_idS (by omega))) ?_
        refine Seg.step rfl rfl (Yd.shr1 rfl rfl) ?_
        refine Seg.step rfl rfl (Yd.convN rfl rfl rfl (IntWalk.i64_in _ (by omega))) ?_
        refine Seg.step rfl rfl (Yd.assign rfl) ?_
        refine Seg.nil ?_
        refine At.then_ ?_
        refine Cd.seq ?_
        refine Cd.anyE (by kernel_rfl) (fun w36 hE36 => ?_)
        replace hB := hB.ext hE36
        replace hWr := Wr.trans hWr (Ext.wr hE36 _)
        replace hB2 := hB2.ext hE36
        refine SegA.pure 0 rfl (by kernel_rfl) (by kernel_rfl) (by kernel_rfl) rfl rfl (fun _ => Yd.move rfl) ?_
        refine SegA.pure 1 rfl (by kernel_rfl) (by kernel_rfl) (by kernel_rfl) rfl rfl (fun _ => Yd.move rfl) ?_
        refine SegA.pure 2 rfl (by kernel_rfl) (by kernel_rfl) (by kernel_rfl) rfl rfl (fun _ => Yd.move rfl) ?_
        refine SegA.pure 3 rfl (by kernel_rfl) (by kernel_rfl) (by kernel_rfl) rfl rfl (fun _ => Yd.indexAddr rfl rfl rfl (NatOf.self (by omega)) (by omega)) ?_
        refine SegA.pure 5 rfl (by kernel_rfl) (by kernel_rfl) (by kernel_rfl) rfl rfl (fun _ => Yd.move rfl) ?_
        refine SegA.pure 6 rfl (by kernel_rfl) (by kernel_rfl) (by kernel_rfl) rfl rfl (fun _ => Yd.move rfl) ?_
        refine SegA.pure 7 rfl (by kernel_rfl) (by kernel_rfl) (by kernel_rfl) rfl rfl (fun _ => Yd.indexAddr rfl rfl rfl (NatOf.self (by omega)) (by omega)) ?_
        refine SegA.held 11 ?_
        refine SegG.take 4 rfl (by kernel_rfl) (by kernel_rfl) (by kernel_rfl) (by kernel_rfl) (by kernel_rfl) rfl rfl (fun w' hw' => Yd.loadN rfl rfl rfl ((cur_row hB2 gy).ext hw')) ?_
        refine SegG.take 8 rfl (by kernel_rfl) (by kernel_rfl) (by kernel_rfl) (by kernel_rfl) (by kernel_rfl) rfl rfl (fun w' hw' => Yd.loadN rfl rfl rfl ((cur_row hB2 gx).ext hw')) ?_
        refine SegG.oneSeg (o := ⟨_, _, _, _, _, _⟩) 9 rfl (by kernel_rfl) ?_
        (refine Seg.callv (first := []) rfl rfl rfl (own_of rfl) rfl (cmp_any y x _) ?_; rintro _ w48 ⟨⟨cc, rfl, hcc⟩, hE48⟩; have hc1 := hcc.2 hk)
        replace hE36 := Ext.trans hE36 hE48
        replace hB := hB.ext hE48
        replace hWr := Wr.trans hWr (Ext.wr hE48 _)
        replace hB2 := hB2.ext hE48
        refine SegG.back rfl (by first | assumption | exact Ext.refl _) ?_
        refine SegG.take 10 rfl (by kernel_rfl) (by kernel_rfl) (by kernel_rfl) (by kernel_rfl) (by kernel_rfl) rfl rfl (fun w' hw' => Yd.lss rfl rfl) ?_
        refine SegG.done (by kernel_rfl) ?_
        refine At.then_ ?_
        refine Cd.condk rfl (fun h53 => ?_) (fun h53 => ?_)
        · refine Cd.region ?_
          refine Seg.step rfl rfl (Yd.move rfl) ?_
          refine Seg.step rfl rfl (Yd.addI rfl rfl (by omega)) ?_
          refine Seg.step rfl rfl (Yd.assign rfl) ?_
          refine Seg.nil ?_
          refine At.blk ?_
          exact At.round (⟨(i + j) / 2 + 1, j⟩ : Bin) (.cons rfl (.cons rfl (.cons rfl (.cons rfl (.cons rfl (.cons rfl (.cons rfl (.nil _)))))))) ⟨⟨by show q ≤ (i + j) / 2 + 1; omega, by show (i + j) / 2 + 1 ≤ j; omega, hi3⟩, hlo' hk, hhi, hB2, hWr⟩ (by show (j - ((i + j) / 2 + 1)).toNat < (j - i).toNat; omega)
        · exfalso; omega
      · exfalso; omega
    · refine Cd.seq ?_
      refine Cd.seq ?_
      refine Cd.region ?_
      refine Seg.step rfl rfl (Yd.move rfl) ?_
      refine Seg.step rfl rfl (Yd.move rfl) ?_
      refine Seg.step rfl rfl (Yd.lss rfl rfl) ?_
      refine Seg.nil ?_
      refine At.then_ ?_
      refine Cd.condk rfl (fun h19 => ?_) (fun h19 => ?_)
      · refine Cd.skip ?_
        refine At.then_ ?_
        refine Cd.block ?_
        refine Cd.seq ?_
        refine Cd.region ?_
        refine Seg.step rfl rfl (Yd.move rfl) ?_
        refine Seg.step rfl rfl (Yd.move rfl) ?_
        refine Seg.step rfl rfl (Yd.addI rfl rfl (by omega)) ?_
        refine Seg.step rfl rfl (Yd.convN rfl rfl rfl (u64_idS (by omega))) ?_
        refine Seg.step rfl rfl (Yd.shr1 rfl rfl) ?_
        refine Seg.step rfl rfl (Yd.convN rfl rfl rfl (IntWalk.i64_in _ (by omega))) ?_
        refine Seg.step rfl rfl (Yd.assign rfl) ?_
        refine Seg.nil ?_
        refine At.then_ ?_
        refine Cd.seq ?_
        refine Cd.anyE (by kernel_rfl) (fun w36 hE36 => ?_)
        replace hB := hB.ext hE36
        replace hWr := Wr.trans hWr (Ext.wr hE36 _)
        replace hB2 := hB2.ext hE36
        refine SegA.pure 0 rfl (by kernel_rfl) (by kernel_rfl) (by kernel_rfl) rfl rfl (fun _ => Yd.move rfl) ?_
        refine SegA.pure 1 rfl (by kernel_rfl) (by kernel_rfl) (by kernel_rfl) rfl rfl (fun _ => Yd.move rfl) ?_
        refine SegA.pure 2 rfl (by kernel_rfl) (by kernel_rfl) (by kernel_rfl) rfl rfl (fun _ => Yd.move rfl) ?_
        refine SegA.pure 3 rfl (by kernel_rfl) (by kernel_rfl) (by kernel_rfl) rfl rfl (fun _ => Yd.indexAddr rfl rfl rfl (NatOf.self (by omega)) (by omega)) ?_
        refine SegA.pure 5 rfl (by kernel_rfl) (by kernel_rfl) (by kernel_rfl) rfl rfl (fun _ => Yd.move rfl) ?_
        refine SegA.pure 6 rfl (by kernel_rfl) (by kernel_rfl) (by kernel_rfl) rfl rfl (fun _ => Yd.move rfl) ?_
        refine SegA.pure 7 rfl (by kernel_rfl) (by kernel_rfl) (by kernel_rfl) rfl rfl (fun _ => Yd.indexAddr rfl rfl rfl (NatOf.self (by omega)) (by omega)) ?_
        refine SegA.held 11 ?_
        refine SegG.take 4 rfl (by kernel_rfl) (by kernel_rfl) (by kernel_rfl) (by kernel_rfl) (by kernel_rfl) rfl rfl (fun w' hw' => Yd.loadN rfl rfl rfl ((cur_row hB2 gy).ext hw')) ?_
        refine SegG.take 8 rfl (by kernel_rfl) (by kernel_rfl) (by kernel_rfl) (by kernel_rfl) (by kernel_rfl) rfl rfl (fun w' hw' => Yd.loadN rfl rfl rfl ((cur_row hB2 gx).ext hw')) ?_
        refine SegG.oneSeg (o := ⟨_, _, _, _, _, _⟩) 9 rfl (by kernel_rfl) ?_
        (refine Seg.callv (first := []) rfl rfl rfl (own_of rfl) rfl (cmp_any y x _) ?_; rintro _ w48 ⟨⟨cc, rfl, hcc⟩, hE48⟩; have hc1 : ¬ cc < 0 := fun h => hk (hcc.1 h))
        replace hE36 := Ext.trans hE36 hE48
        replace hB := hB.ext hE48
        replace hWr := Wr.trans hWr (Ext.wr hE48 _)
        replace hB2 := hB2.ext hE48
        refine SegG.back rfl (by first | assumption | exact Ext.refl _) ?_
        refine SegG.take 10 rfl (by kernel_rfl) (by kernel_rfl) (by kernel_rfl) (by kernel_rfl) (by kernel_rfl) rfl rfl (fun w' hw' => Yd.lss rfl rfl) ?_
        refine SegG.done (by kernel_rfl) ?_
        refine At.then_ ?_
        refine Cd.condk rfl (fun h53 => ?_) (fun h53 => ?_)
        · exfalso; omega
        · refine Cd.region ?_
          refine Seg.step rfl rfl (Yd.move rfl) ?_
          refine Seg.step rfl rfl (Yd.assign rfl) ?_
          refine Seg.nil ?_
          refine At.blk ?_
          exact At.round (⟨i, (i + j) / 2⟩ : Bin) (.cons rfl (.cons rfl (.cons rfl (.cons rfl (.cons rfl (.cons rfl (.cons rfl (.nil _)))))))) ⟨⟨hi1, by show i ≤ (i + j) / 2; omega, by show (i + j) / 2 ≤ r; omega⟩, hlo, hhi' hk, hB2, hWr⟩ (by show ((i + j) / 2 - i).toNat < (j - i).toNat; omega)
      · exfalso; omega
  · obtain rfl : i = j := by omega
    obtain ⟨u, hu⟩ : ∃ u : Nat, (u : Int) = i - q := ⟨(i - q).toNat, by omega⟩
    have hR12 : R.take u ++ R.drop u = R := List.take_append_drop u R
    have h1 : ∀ z ∈ R.take u, key z < key x := fun z hz => by
      obtain ⟨c, hc⟩ := List.getElem?_of_mem hz
      have hcl := (List.getElem?_eq_some_iff.1 hc).1
      rw [List.length_take] at hcl
      rw [List.getElem?_take_of_lt (by omega)] at hc
      exact hlo c z (by omega) hc
    have h2 : ∀ z ∈ R.drop u, key x ≤ key z := fun z hz => by
      obtain ⟨c, hc⟩ := List.getElem?_of_mem hz
      rw [List.getElem?_drop] at hc
      have := hhi (u + c) z (by omega) hc
      omega
    generalize hR1 : R.take u = R1 at hR12 h1
    generalize hR2 : R.drop u = R2 at hR12 h2
    have hl1 : R1.length = u := by rw [← hR1, List.length_take]; omega
    clear hR1 hR2 hlo hhi
    subst hR12
    rw [List.length_append] at hlen hr hR
    have hY : Srtd key (R1 ++ x :: R2) ∧ SameBy key (x :: (R1 ++ R2)) (R1 ++ x :: R2) := by
      obtain ⟨g1, g2, g3⟩ := List.pairwise_append.1 hs
      refine ⟨List.pairwise_append.2 ⟨g1, List.pairwise_cons.2 ⟨h2, g2⟩, fun a ha c hc => ?_⟩, ?_⟩
      · rcases List.mem_cons.1 hc with rfl | hc
        · exact Int.le_of_lt (h1 a ha)
        · exact g3 a ha c hc
      · have := (SameBy.rot (U := [x]) (V := R1) (fun a ha c hc => by cases List.mem_singleton.1 ha; exact h1 c hc)).app (SameBy.refl (key := key) R2)
        simpa using this
    refine Cd.seq ?_
    refine Cd.seq ?_
    refine Cd.region ?_
    refine Seg.step rfl rfl (Yd.move rfl) ?_
    refine Seg.step rfl rfl (Yd.move rfl) ?_
    refine Seg.step rfl rfl (Yd.lss rfl rfl) ?_
    refine Seg.nil ?_
    refine At.then_ ?_
    refine Cd.condk rfl (fun h19 => ?_) (fun h19 => ?_)
    · exfalso; omega
    refine Cd.exit ?_
    refine At.then_exit ?_
    refine At.then_exit ?_
    refine At.blk_same ?_
    refine At.then_ ?_
    refine Cd.seq ?_
    refine Cd.seq ?_
    refine Cd.region ?_
    refine Seg.step rfl rfl (Yd.move rfl) ?_
    refine Seg.step rfl rfl (Yd.assign rfl) ?_
    refine Seg.nil ?_
    refine At.then_ ?_
    refine Cd.block ?_
    refine Cd.loop (σ := Shf) (fun s => [(0, dataV b N cap), (10, .int .i64 i), (13, .int .i64 s.k)])
      (fun s w' => (s.S1 ++ s.S2 = R1 ∧ s.k = ((A.length + s.S1.length : Nat) : Int)) ∧ Bx w' b ((A ++ (s.S1 ++ (x :: (s.S2 ++ (R2 ++ B))))).flatMap cel ++ zs) ∧ Wr b w w')
      (fun s => s.S2.length) ⟨[], R1, p⟩ (.cons rfl (.cons rfl (.cons rfl (.nil _)))) ⟨⟨rfl, hp⟩, by simpa using hB, hWr⟩ ?_
    clear hB hWr
    rintro ⟨S1, S2, k⟩ w1 ⟨⟨hS, hk⟩, hB, hWr⟩
    simp only at hS hk hB ⊢
    have hSl := congrArg List.length hS
    rw [List.length_append] at hSl
    cases S2 with
    | nil =>
      have hk' : ¬ k < i - 1 := by simp at hSl; omega
      refine Cd.seq ?_
      refine Cd.seq ?_
      refine Cd.region ?_
      refine Seg.step rfl rfl (Yd.move rfl) ?_
      refine Seg.step rfl rfl (Yd.move rfl) ?_
      refine Seg.step rfl rfl (Yd.subI rfl rfl (by omega)) ?_
      refine Seg.step rfl rfl (Yd.lss rfl rfl) ?_
      refine Seg.nil ?_
      refine At.then_ ?_
      refine Cd.condk rfl (fun h29 => ?_) (fun h29 => ?_)
      · exfalso; omega
      · refine Cd.exit ?_
        refine At.then_exit ?_
        refine At.then_exit ?_
        refine At.blk_same ?_
        refine At.then_ ?_
        refine Cd.ret ?_
        refine At.then_ret ?_
        exact At.ret Try.results37 .nil ⟨R1 ++ x :: R2, by (rw [← hS]); simpa using hB, hWr, hY⟩
    | cons y S2 =>
      rw [List.length_cons] at hSl
      have gx : (A ++ (S1 ++ (x :: (y :: S2 ++ (R2 ++ B)))))[k.toNat]? = some x := by
        rw [show A ++ (S1 ++ (x :: (y :: S2 ++ (R2 ++ B)))) = (A ++ S1) ++ x :: (y :: (S2 ++ (R2 ++ B))) by simp]
        exact at_mid (by simp; omega)
      have gy : (A ++ (S1 ++ (x :: (y :: S2 ++ (R2 ++ B)))))[k.toNat + 1]? = some y := by
        rw [show A ++ (S1 ++ (x :: (y :: S2 ++ (R2 ++ B)))) = (A ++ S1 ++ [x]) ++ y :: (S2 ++ (R2 ++ B)) by simp]
        exact at_mid (by simp; omega)
      have hsw := (swap_set (Q1 := A ++ S1) (Q2 := []) (Q3 := S2 ++ (R2 ++ B)) (x := x) (y := y) (i := k.toNat) (j := k.toNat + 1) (by simp; omega) (by simp; omega)).1
      have e1 : A ++ (S1 ++ (x :: (y :: S2 ++ (R2 ++ B)))) = (A ++ S1) ++ x :: ([] ++ y :: (S2 ++ (R2 ++ B))) := by simp
      have e2 : A ++ ((S1 ++ [y]) ++ (x :: (S2 ++ (R2 ++ B)))) = (A ++ S1) ++ y :: ([] ++ x :: (S2 ++ (R2 ++ B))) := by simp
      rw [← e1, ← e2] at hsw
      clear e1 e2
      generalize hcur : A ++ (S1 ++ (x :: (y :: S2 ++ (R2 ++ B)))) = cur at hB gx gy hsw
      have hcl : cur.length = N := by rw [← hcur, hlen]; simp; omega
      have hb1 : k.toNat < cur.length := by omega
      have hb2 : k.toNat + 1 < (cur.set k.toNat y).length := by rw [List.length_set]; omega
      clear hcur
      refine Cd.seq ?_
      refine Cd.seq ?_
      refine Cd.region ?_
      refine Seg.step rfl rfl (Yd.move rfl) ?_
      refine Seg.step rfl rfl (Yd.move rfl) ?_
      refine Seg.step rfl rfl (Yd.subI rfl rfl (by omega)) ?_
      refine Seg.step rfl rfl (Yd.lss rfl rfl) ?_
      refine Seg.nil ?_
      refine At.then_ ?_
      refine Cd.condk rfl (fun h29 => ?_) (fun h29 => ?_)
      · refine Cd.skip ?_
        refine At.then_ ?_
        refine Cd.seq ?_
        refine Cd.block ?_
        refine Cd.anyE (by kernel_rfl) (fun w35 hE35 => ?_)
        replace hWr := Wr.trans hWr (Ext.wr hE35 _)
        replace hB := hB.ext hE35
        refine SegA.pure 0 rfl (by kernel_rfl) (by kernel_rfl) (by kernel_rfl) rfl rfl (fun _ => Yd.move rfl) ?_
        refine SegA.pure 1 rfl (by kernel_rfl) (by kernel_rfl) (by kernel_rfl) rfl rfl (fun _ => Yd.move rfl) ?_
        refine SegA.pure 2 rfl (by kernel_rfl) (by kernel_rfl) (by kernel_rfl) rfl rfl (fun _ => Yd.move rfl) ?_
        refine SegA.pure 3 rfl (by kernel_rfl) (by kernel_rfl) (by kernel_rfl) rfl rfl (fun _ => Yd.move rfl) ?_
        refine SegA.pure 4 rfl (by kernel_rfl) (by kernel_rfl) (by kernel_rfl) rfl rfl (fun _ => Yd.addI rfl rfl (by omega)) ?_
        refine SegA.pure 5 rfl (by kernel_rfl) (by kernel_rfl) (by kernel_rfl) rfl rfl (fun _ => Yd.move rfl) ?_
        refine SegA.pure 6 rfl (by kernel_rfl) (by kernel_rfl) (by kernel_rfl) rfl rfl (fun _ => Yd.move rfl) ?_
        refine SegA.pure 7 rfl (by kernel_rfl) (by kernel_rfl) (by kernel_rfl) rfl rfl (fun _ => Yd.addI rfl rfl (by omega)) ?_
        refine SegA.pure 8 rfl (by kernel_rfl) (by kernel_rfl) (by kernel_rfl) rfl rfl (fun _ => Yd.indexAddr rfl rfl rfl (NatOf.add (NatOf.self (by omega)) (NatOf.cast 1)) (by omega)) ?_
        refine SegA.pure 10 rfl (by kernel_rfl) (by kernel_rfl) (by kernel_rfl) rfl rfl (fun _ => Yd.move rfl) ?_
        refine SegA.pure 11 rfl (by kernel_rfl) (by kernel_rfl) (by kernel_rfl) rfl rfl (fun _ => Yd.move rfl) ?_
        refine SegA.pure 12 rfl (by kernel_rfl) (by kernel_rfl) (by kernel_rfl) rfl rfl (fun _ => Yd.indexAddr rfl rfl rfl (NatOf.self (by omega)) (by omega)) ?_
        refine SegA.held 15 ?_
        refine SegG.take 9 rfl (by kernel_rfl) (by kernel_rfl) (by kernel_rfl) (by kernel_rfl) (by kernel_rfl) rfl rfl (fun w' hw' => Yd.loadN rfl rfl rfl ((cur_row hB gy).ext hw')) ?_
        refine SegG.take 13 rfl (by kernel_rfl) (by kernel_rfl) (by kernel_rfl) (by kernel_rfl) (by kernel_rfl) rfl rfl (fun w' hw' => Yd.loadN rfl rfl rfl ((cur_row hB gx).ext hw')) ?_
        refine SegG.take 14 rfl (by kernel_rfl) (by kernel_rfl) (by kernel_rfl) (by kernel_rfl) (by kernel_rfl) rfl rfl (fun w' hw' => Yd.indexAddr rfl rfl rfl (NatOf.self (by omega)) (by omega)) ?_
        refine SegG.oneSeg (o := ⟨_, _, _, _, _, _⟩) 15 rfl (by kernel_rfl) ?_
        (refine Seg.storeMid rfl rfl rfl rfl hB (room hb1) (celOneA y) (fun w53 hW53 hB53 => ?_); replace hB := cur_set hb1 hB53; clear hB53; replace hWr := hWr.trans hW53)
        refine SegG.end_ rfl ?_
        refine SegA.pure 16 rfl (by kernel_rfl) (by kernel_rfl) (by kernel_rfl) rfl rfl (fun _ => Yd.indexAddr rfl rfl rfl (NatOf.add (NatOf.self (by omega)) (NatOf.cast 1)) (by omega)) ?_
        refine SegA.oneSeg (o := ⟨_, _, _, _, _, _⟩) 17 rfl (by kernel_rfl) ?_
        (refine Seg.storeMid rfl rfl rfl rfl hB (room hb2) (celOneA x) (fun w57 hW57 hB57 => ?_); replace hB := cur_set hb2 hB57; clear hB57; replace hWr := hWr.trans hW57)
        refine SegA.back ?_
        refine SegA.done (by kernel_rfl) ?_
        refine At.blk ?_
        refine At.then_ ?_
        refine Cd.region ?_
        refine Seg.step rfl rfl (Yd.move rfl) ?_
        refine Seg.step rfl rfl (Yd.addI rfl rfl (by omega)) ?_
        refine Seg.step rfl rfl (Yd.assign rfl) ?_
        refine Seg.nil ?_
        exact At.round (⟨S1 ++ [y], S2, k + 1⟩ : Shf) (.cons rfl (.cons rfl (.cons rfl (.nil _)))) ⟨⟨by (rw [← hS]); simp, by show k + 1 = ((A.length + (S1 ++ [y]).length : Nat) : Int); rw [List.length_append, List.length_singleton]; omega⟩, hsw ▸ hB, hWr⟩ (by show S2.length < S2.length + 1; omega)
      · exfalso; omega
end Go.Proofs.Ytccppgpedlfjdaa
