/- Stable sorting: the walk of symMerge where the second half is one element. -/
import Derived.Test.YtccppgpedlfjdaaSya
namespace Go.Proofs.Ytccppgpedlfjdaa
open Go Go.RowKit
set_option maxHeartbeats 400000 in
theorem sym_right (A L : List El) (x : El) (B : List El) (zs : List Value) (b N cap : Nat) (p q r : Int) (w : World) (hL : 1 < L.length) (hs : Srtd key L) (hN : N = (A ++ (L ++ (x :: B))).length) (hN' : N ≤ 1000000) (hB : Bx w b ((A ++ (L ++ (x :: B))).flatMap cel ++ zs))
    (hp : p = (A.length : Nat)) (hq : q = ((A.length + L.length : Nat) : Int)) (hr : r = ((A.length + L.length + 1 : Nat) : Int)) :
    Ret Try.prog 37 #[dataV b N cap, .int .i64 p, .int .i64 q, .int .i64 r, cmpV] w fun _ w' => ∃ Y, Bx w' b ((A ++ (Y ++ B)).flatMap cel ++ zs) ∧ Wr b w w' ∧ Srtd key Y ∧ SameBy key (L ++ [x]) Y := by
  have hlen : N = A.length + L.length + 1 + B.length := by rw [hN]; simp; omega
  have hWr : Wr b w w := Wr.here
  refine Ret.body Try.func37 rfl Try.ntmps37 rfl ?_
  refine Cd.seq ?_
  refine Cd.seq ?_
  refine Cd.region ?_
  refine Seg.step rfl rfl (Yd.move rfl) ?_
  refine Seg.step rfl rfl (Yd.move rfl) ?_
  refine Seg.step rfl rfl (Yd.subI rfl rfl (by omega)) ?_
  refine Seg.step rfl rfl (Yd.eql rfl rfl) ?_
  refine Seg.nil ?_
  refine At.then_ ?_
  refine Cd.condk rfl (fun h10 => ?_) (fun h10 => ?_)
  · exfalso; omega
  refine Cd.skip ?_
  refine At.then_ ?_
  refine Cd.seq ?_
  refine Cd.seq ?_
  refine Cd.region ?_
  refine Seg.step rfl rfl (Yd.move rfl) ?_
  refine Seg.step rfl rfl (Yd.move rfl) ?_
  refine Seg.step rfl rfl (Yd.subI rfl rfl (by omega)) ?_
  refine Seg.step rfl rfl (Yd.eql rfl rfl) ?_
  refine Seg.nil ?_
  refine At.then_ ?_
  refine Cd.condk rfl (fun h23 => ?_) (fun h23 => ?_)
  rotate_left 1
  · exfalso; omega
  rotate_right 1
  refine Cd.seq ?_
  refine Cd.region ?_
  refine Seg.step rfl rfl (Yd.move rfl) ?_
  refine Seg.step rfl rfl (Yd.assign rfl) ?_
  refine Seg.nil ?_
  refine At.then_ ?_
  refine Cd.seq ?_
  refine Cd.region ?_
  refine Seg.step rfl rfl (Yd.move rfl) ?_
  refine Seg.step rfl rfl (Yd.assign rfl) ?_
  refine Seg.nil ?_
  refine At.then_ ?_
  refine Cd.seq ?_
  refine Cd.block ?_
  refine Cd.loop (σ := Bin) (fun s => [(0, dataV b N cap), (1, .int .i64 p), (2, .int .i64 q), (3, .int .i64 r), (4, cmpV), (14, .int .i64 s.i), (15, .int .i64 s.j)])
    (fun s w' => (p ≤ s.i ∧ s.i ≤ s.j ∧ s.j ≤ q) ∧ (∀ (c : Nat) y, (c : Int) + p < s.i → L[c]? = some y → ¬ key x < key y) ∧ (∀ (c : Nat) y, s.j ≤ (c : Int) + p → L[c]? = some y → key x < key y) ∧ Bx w' b ((A ++ (L ++ (x :: B))).flatMap cel ++ zs) ∧ Wr b w w')
    (fun s => (s.j - s.i).toNat) ⟨p, q⟩ (.cons rfl (.cons rfl (.cons rfl (.cons rfl (.cons rfl (.cons rfl (.cons rfl (.nil _)))))))) ⟨⟨Int.le_refl _, by show p ≤ q; omega, Int.le_refl _⟩, (fun c y h _ => by have h' : (c : Int) + p < p := h; exact absurd h' (by omega)), (fun c y h hc => by have h1 : q ≤ (c : Int) + p := h; have h2 := (List.getElem?_eq_some_iff.1 hc).1; exact absurd h1 (by omega)), hB, hWr⟩ ?_
  clear hB hWr
  rintro ⟨i, j⟩ w0 ⟨⟨hi1, hi2, hi3⟩, hlo, hhi, hB, hWr⟩
  simp only at hi1 hi2 hi3 hlo hhi hB ⊢
  have hm : 0 ≤ i + j ∧ i + j ≤ 9223372036854775807 := by omega
  by_cases hlt : i < j
  · have hh : i ≤ (i + j) / 2 ∧ (i + j) / 2 < j := by omega
    obtain ⟨h, hhv⟩ : ∃ h, h = (i + j) / 2 := ⟨_, rfl⟩
    obtain ⟨y, hy⟩ : ∃ y, L[(h - p).toNat]? = some y := ⟨_, List.getElem?_eq_getElem (by omega)⟩
    have gy : (A ++ (L ++ (x :: B)))[((i + j) / 2).toNat]? = some y := by
      rw [← hhv, List.getElem?_append_right (by omega), show h.toNat - A.length = (h - p).toNat by omega, List.getElem?_append_left (by omega)]
      exact hy
    have gx : (A ++ (L ++ (x :: B)))[q.toNat]? = some x := by
      rw [← List.append_assoc]
      exact at_mid (by simp; omega)
    have hB2 := hB
    generalize hcur : A ++ (L ++ (x :: B)) = cur at hB2 gx gy
    have hcl : cur.length = N := by rw [← hcur, hN]
    have hlo' : ¬ key x < key y → ∀ (c : Nat) z, (c : Int) + p < (i + j) / 2 + 1 → L[c]? = some z → ¬ key x < key z := fun hk c z hc hz => by
      have := hs.get hz hy (by omega); omega
    have hhi' : key x < key y → ∀ (c : Nat) z, (i + j) / 2 ≤ (c : Int) + p → L[c]? = some z → key x < key z := fun hk c z hc hz => by
      have := hs.get hy hz (by omega); omega
    by_cases hk : key x < key y
    · refine Cd.seq ?_
      refine Cd.seq ?_
      refine Cd.region ?_
      refine Seg.step rfl rfl (Yd.move rfl) ?_
      refine Seg.step rfl rfl (Yd.move rfl) ?_
      refine Seg.step rfl rfl (Yd.lss rfl rfl) ?_
      refine Seg.nil ?_
      refine At.then_ ?_
      refine Cd.condk rfl (fun h32 => ?_) (fun h32 => ?_)
      · refine Cd.skip ?_
        refine At.then_ ?_
        refine Cd.block ?_
        refine Cd.seq ?_
        refine Cd.region ?_
        refine Seg.step rfl rfl (Yd.move rfl) ?_
        refine Seg.step rfl rfl (Yd.move rfl) ?_
        refine Seg.step rfl rfl (Yd.addI rfl rfl (by omega)) ?_
        refine Seg.step rfl rfl (Yd.convN rfl rfl rfl (u64_idS (by omega))) ?_
        refine Seg.step rfl rfl (Yd.shr1 rfl rfl) ?_
        refine Seg.step rfl rfl (Yd.convN rfl rfl rfl (IntWalk.i64_in _ (by omega))) ?_
        refine Seg.step rfl rfl (Yd.assign rfl) ?_
        refine Seg.nil ?_
        refine At.then_ ?_
        refine Cd.seq ?_
        refine Cd.anyE (by kernel_rfl) (fun w49 hE49 => ?_)
        replace hB := hB.ext hE49
        replace hWr := Wr.trans hWr (Ext.wr hE49 _)
        replace hB2 := hB2.ext hE49
        refine SegA.pure 0 rfl (by kernel_rfl) (by kernel_rfl) (by kernel_rfl) rfl rfl (fun _ => Yd.move rfl) ?_
        refine SegA.pure 1 rfl (by kernel_rfl) (by kernel_rfl) (by kernel_rfl) rfl rfl (fun _ => Yd.move rfl) ?_
        refine SegA.pure 2 rfl (by kernel_rfl) (by kernel_rfl) (by kernel_rfl) rfl rfl (fun _ => Yd.move rfl) ?_
        refine SegA.pure 3 rfl (by kernel_rfl) (by kernel_rfl) (by kernel_rfl) rfl rfl (fun _ => Yd.indexAddr rfl rfl rfl (NatOf.self (by omega)) (by omega)) ?_
        refine SegA.pure 5 rfl (by kernel_rfl) (by kernel_rfl) (by kernel_rfl) rfl rfl (fun _ => Yd.move rfl) ?_
        refine SegA.pure 6 rfl (by kernel_rfl) (by kernel_rfl) (by kernel_rfl) rfl rfl (fun _ => Yd.move rfl) ?_
        refine SegA.pure 7 rfl (by kernel_rfl) (by kernel_rfl) (by kernel_rfl) rfl rfl (fun _ => Yd.indexAddr rfl rfl rfl (NatOf.self (by omega)) (by omega)) ?_
        refine SegA.held 12 ?_
        refine SegG.take 4 rfl (by kernel_rfl) (by kernel_rfl) (by kernel_rfl) (by kernel_rfl) (by kernel_rfl) rfl rfl (fun w' hw' => Yd.loadN rfl rfl rfl ((cur_row hB2 gx).ext hw')) ?_
        refine SegG.take 8 rfl (by kernel_rfl) (by kernel_rfl) (by kernel_rfl) (by kernel_rfl) (by kernel_rfl) rfl rfl (fun w' hw' => Yd.loadN rfl rfl rfl ((cur_row hB2 gy).ext hw')) ?_
        refine SegG.oneSeg (o := ⟨_, _, _, _, _, _⟩) 9 rfl (by kernel_rfl) ?_
        (refine Seg.callv (first := []) rfl rfl rfl (own_of rfl) rfl (cmp_any x y _) ?_; rintro _ w61 ⟨⟨cc, rfl, hcc⟩, hE61⟩; have hc1 := hcc.2 hk)
        replace hE49 := Ext.trans hE49 hE61
        replace hB := hB.ext hE61
        replace hWr := Wr.trans hWr (Ext.wr hE61 _)
        replace hB2 := hB2.ext hE61
        refine SegG.back rfl (by first | assumption | exact Ext.refl _) ?_
        refine SegG.take 10 rfl (by kernel_rfl) (by kernel_rfl) (by kernel_rfl) (by kernel_rfl) (by kernel_rfl) rfl rfl (fun w' hw' => Yd.lss rfl rfl) ?_
        refine SegG.take 11 rfl (by kernel_rfl) (by kernel_rfl) (by kernel_rfl) (by kernel_rfl) (by kernel_rfl) rfl rfl (fun w' hw' => Yd.notp rfl) ?_
        refine SegG.done (by kernel_rfl) ?_
        refine At.then_ ?_
        refine Cd.condk rfl (fun h67 => ?_) (fun h67 => ?_)
        · exfalso; omega
        · refine Cd.region ?_
          refine Seg.step rfl rfl (Yd.move rfl) ?_
          refine Seg.step rfl rfl (Yd.assign rfl) ?_
          refine Seg.nil ?_
          refine At.blk ?_
          exact At.round (⟨i, (i + j) / 2⟩ : Bin) (.cons rfl (.cons rfl (.cons rfl (.cons rfl (.cons rfl (.cons rfl (.cons rfl (.nil _)))))))) ⟨⟨hi1, by show i ≤ (i + j) / 2; omega, by show (i + j) / 2 ≤ q; omega⟩, hlo, hhi' hk, hB2, hWr⟩ (by show ((i + j) / 2 - i).toNat < (j - i).toNat; omega)
      · exfalso; omega
    · refine Cd.seq ?_
      refine Cd.seq ?_
      refine Cd.region ?_
      refine Seg.step rfl rfl (Yd.move rfl) ?_
      refine Seg.step rfl rfl (Yd.move rfl) ?_
      refine Seg.step rfl rfl (Yd.lss rfl rfl) ?_
      refine Seg.nil ?_
      refine At.then_ ?_
      refine Cd.condk rfl (fun h32 => ?_) (fun h32 => ?_)
      · refine Cd.skip ?_
        refine At.then_ ?_
        refine Cd.block ?_
        refine Cd.seq ?_
        refine Cd.region ?_
        refine Seg.step rfl rfl (Yd.move rfl) ?_
        refine Seg.step rfl rfl (Yd.move rfl) ?_
        refine Seg.step rfl rfl (Yd.addI rfl rfl (by omega)) ?_
        refine Seg.step rfl rfl (Yd.convN rfl rfl rfl (u64_idS (by omega))) ?_
        refine Seg.step rfl rfl (Yd.shr1 rfl rfl) ?_
        refine Seg.step rfl rfl (Yd.convN rfl rfl rfl (IntWalk.i64_in _ (by omega))) ?_
        refine Seg.step rfl rfl (Yd.assign rfl) ?_
        refine Seg.nil ?_
        refine At.then_ ?_
        refine Cd.seq ?_
        refine Cd.anyE (by kernel_rfl) (fun w49 hE49 => ?_)
        replace hB := hB.ext hE49
        replace hWr := Wr.trans hWr (Ext.wr hE49 _)
        replace hB2 := hB2.ext hE49
        refine SegA.pure 0 rfl (by kernel_rfl) (by kernel_rfl) (by kernel_rfl) rfl rfl (fun _ => Yd.move rfl) ?_
        refine SegA.pure 1 rfl (by kernel_rfl) (by kernel_rfl) (by kernel_rfl) rfl rfl (fun _ => Yd.move rfl) ?_
        refine SegA.pure 2 rfl (by kernel_rfl) (by kernel_rfl) (by kernel_rfl) rfl rfl (fun _ => Yd.move rfl) ?_
        refine SegA.pure 3 rfl (by kernel_rfl) (by kernel_rfl) (by kernel_rfl) rfl rfl (fun _ => Yd.indexAddr rfl rfl rfl (NatOf.self (by omega)) (by omega)) ?_
        refine SegA.pure 5 rfl (by kernel_rfl) (by kernel_rfl) (by kernel_rfl) rfl rfl (fun _ => Yd.move rfl) ?_
        refine SegA.pure 6 rfl (by kernel_rfl) (by kernel_rfl) (by kernel_rfl) rfl rfl (fun _ => Yd.move rfl) ?_
        refine SegA.pure 7 rfl (by kernel_rfl) (by kernel_rfl) (by kernel_rfl) rfl rfl (fun _ => Yd.indexAddr rfl rfl rfl (NatOf.self (by omega)) (by omega)) ?_
        refine SegA.held 12 ?_
        refine SegG.take 4 rfl (by kernel_rfl) (by kernel_rfl) (by kernel_rfl) (by kernel_rfl) (by kernel_rfl) rfl rfl (fun w' hw' => Yd.loadN rfl rfl rfl ((cur_row hB2 gx).ext hw')) ?_
        refine SegG.take 8 rfl (by kernel_rfl) (by kernel_rfl) (by kernel_rfl) (by kernel_rfl) (by kernel_rfl) rfl rfl (fun w' hw' => Yd.loadN rfl rfl rfl ((cur_row hB2 gy).ext hw')) ?_
        refine SegG.oneSeg (o := ⟨_, _, _, _, _, _⟩) 9 rfl (by kernel_rfl) ?_
        (refine Seg.callv (first := []) rfl rfl rfl (own_of rfl) rfl (cmp_any x y _) ?_; rintro _ w61 ⟨⟨cc, rfl, hcc⟩, hE61⟩; have hc1 : ¬ cc < 0 := fun h => hk (hcc.1 h))
        replace hE49 := Ext.trans hE49 hE61
        replace hB := hB.ext hE61
        replace hWr := Wr.trans hWr (Ext.wr hE61 _)
        replace hB2 := hB2.ext hE61
        refine SegG.back rfl (by first | assumption | exact Ext.refl _) ?_
        refine SegG.take 10 rfl (by kernel_rfl) (by kernel_rfl) (by kernel_rfl) (by kernel_rfl) (by kernel_rfl) rfl rfl (fun w' hw' => Yd.lss rfl rfl) ?_
        refine SegG.take 11 rfl (by kernel_rfl) (by kernel_rfl) (by kernel_rfl) (by kernel_rfl) (by kernel_rfl) rfl rfl (fun w' hw' => Yd.notp rfl) ?_
        refine SegG.done (by kernel_rfl) ?_
        refine At.then_ ?_
        refine Cd.condk rfl (fun h67 => ?_) (fun h67 => ?_)
        · refine Cd.region ?_
          refine Seg.step rfl rfl (Yd.move rfl) ?_
          refine Seg.step rfl rfl (Yd.addI rfl rfl (by omega)) ?_
          refine Seg.step rfl rfl (Yd.assign rfl) ?_
          refine Seg.nil ?_
          refine At.blk ?_
          exact At.round (⟨(i + j) / 2 + 1, j⟩ : Bin) (.cons rfl (.cons rfl (.cons rfl (.cons rfl (.cons rfl (.cons rfl (.cons rfl (.nil _)))))))) ⟨⟨by show p ≤ (i + j) / 2 + 1; omega, by show (i + j) / 2 + 1 ≤ j; omega, hi3⟩, hlo' hk, hhi, hB2, hWr⟩ (by show (j - ((i + j) / 2 + 1)).toNat < (j - i).toNat; omega)
        · exfalso; omega
      · exfalso; omega
  · obtain rfl : i = j := by omega
    obtain ⟨u, hu⟩ : ∃ u : Nat, (u : Int) = i - p := ⟨(i - p).toNat, by omega⟩
    have hL12 : L.take u ++ L.drop u = L := List.take_append_drop u L
    have h1 : ∀ z ∈ L.take u, key z ≤ key x := fun z hz => by
      obtain ⟨c, hc⟩ := List.getElem?_of_mem hz
      have hcl := (List.getElem?_eq_some_iff.1 hc).1
      rw [List.length_take] at hcl
      rw [List.getElem?_take_of_lt (by omega)] at hc
      have := hlo c z (by omega) hc
      omega
    have h2 : ∀ z ∈ L.drop u, key x < key z := fun z hz => by
      obtain ⟨c, hc⟩ := List.getElem?_of_mem hz
      rw [List.getElem?_drop] at hc
      exact hhi (u + c) z (by omega) hc
    generalize hL1 : L.take u = L1 at hL12 h1
    generalize hL2 : L.drop u = L2 at hL12 h2
    have hl1 : L1.length = u := by rw [← hL1, List.length_take]; omega
    clear hL1 hL2 hlo hhi
    subst hL12
    rw [List.length_append] at hlen hq hr hL
    have hY : Srtd key (L1 ++ x :: L2) ∧ SameBy key ((L1 ++ L2) ++ [x]) (L1 ++ x :: L2) := insert_done hs h2 h1
    refine Cd.seq ?_
    refine Cd.seq ?_
    refine Cd.region ?_
    refine Seg.step rfl rfl (Yd.move rfl) ?_
    refine Seg.step rfl rfl (Yd.move rfl) ?_
    refine Seg.step rfl rfl (Yd.lss rfl rfl) ?_
    refine Seg.nil ?_
    refine At.then_ ?_
    refine Cd.condk rfl (fun h32 => ?_) (fun h32 => ?_)
    · exfalso; omega
    refine Cd.exit ?_
    refine At.then_exit ?_
    refine At.then_exit ?_
    refine At.blk_same ?_
    refine At.then_ ?_
    refine Cd.seq ?_
    refine Cd.seq ?_
    refine Cd.region ?_
    refine Seg.step rfl rfl (Yd.move rfl) ?_
    refine Seg.step rfl rfl (Yd.assign rfl) ?_
    refine Seg.nil ?_
    refine At.then_ ?_
    refine Cd.block ?_
    refine Cd.loop (σ := Shf) (fun s => [(0, dataV b N cap), (14, .int .i64 i), (17, .int .i64 s.k)])
      (fun s w' => (s.S1 ++ s.S2 = L2 ∧ s.k = ((A.length + L1.length + s.S1.length : Nat) : Int)) ∧ Bx w' b ((A ++ (L1 ++ (s.S1 ++ (x :: (s.S2 ++ B))))).flatMap cel ++ zs) ∧ Wr b w w')
      (fun s => s.S1.length) ⟨L2, [], q⟩ (.cons rfl (.cons rfl (.cons rfl (.nil _)))) ⟨⟨by simp, by show q = ((A.length + L1.length + L2.length : Nat) : Int); omega⟩, by simpa using hB, hWr⟩ ?_
    clear hB hWr
    rintro ⟨S1, S2, k⟩ w1 ⟨⟨hS, hk⟩, hB, hWr⟩
    simp only at hS hk hB ⊢
    have hSl := congrArg List.length hS
    rw [List.length_append] at hSl
    rcases List.eq_nil_or_concat S1 with rfl | ⟨S1, y, rfl⟩
    · have hk' : ¬ i < k := by simp at hk; omega
      have hB3 : Bx w1 b ((A ++ ((L1 ++ x :: L2) ++ B)).flatMap cel ++ zs) := by
        rw [← hS]; simpa using hB
      refine Cd.seq ?_
      refine Cd.seq ?_
      refine Cd.region ?_
      refine Seg.step rfl rfl (Yd.move rfl) ?_
      refine Seg.step rfl rfl (Yd.move rfl) ?_
      refine Seg.step rfl rfl (Yd.gtr rfl rfl) ?_
      refine Seg.nil ?_
      refine At.then_ ?_
      refine Cd.condk rfl (fun h41 => ?_) (fun h41 => ?_)
      · exfalso; omega
      · refine Cd.exit ?_
        refine At.then_exit ?_
        refine At.then_exit ?_
        refine At.blk_same ?_
        refine At.then_ ?_
        refine Cd.ret ?_
        refine At.then_ret ?_
        exact At.ret Try.results37 .nil ⟨L1 ++ x :: L2, hB3, hWr, hY⟩
    · rw [List.concat_eq_append] at *
      rw [List.length_append, List.length_singleton] at hSl hk
      have gx : (A ++ (L1 ++ ((S1 ++ [y]) ++ (x :: (S2 ++ B)))))[k.toNat]? = some x := by
        rw [show A ++ (L1 ++ ((S1 ++ [y]) ++ (x :: (S2 ++ B)))) = (A ++ (L1 ++ (S1 ++ [y]))) ++ x :: (S2 ++ B) by simp]
        exact at_mid (by simp; omega)
      have gy : (A ++ (L1 ++ ((S1 ++ [y]) ++ (x :: (S2 ++ B)))))[k.toNat - 1]? = some y := by
        rw [show A ++ (L1 ++ ((S1 ++ [y]) ++ (x :: (S2 ++ B)))) = (A ++ (L1 ++ S1)) ++ y :: (x :: (S2 ++ B)) by simp]
        exact at_mid (by simp; omega)
      have hsw := (swap_set (Q1 := A ++ (L1 ++ S1)) (Q2 := []) (Q3 := S2 ++ B) (x := y) (y := x) (i := k.toNat - 1) (j := k.toNat) (by simp; omega) (by simp; omega)).2
      have e1 : A ++ (L1 ++ ((S1 ++ [y]) ++ (x :: (S2 ++ B)))) = (A ++ (L1 ++ S1)) ++ y :: ([] ++ x :: (S2 ++ B)) := by simp
      have e2 : A ++ (L1 ++ (S1 ++ (x :: ((y :: S2) ++ B)))) = (A ++ (L1 ++ S1)) ++ x :: ([] ++ y :: (S2 ++ B)) := by simp
      rw [← e1, ← e2] at hsw
      clear e1 e2
      generalize hcur : A ++ (L1 ++ ((S1 ++ [y]) ++ (x :: (S2 ++ B)))) = cur at hB gx gy hsw
      have hcl : cur.length = N := by rw [← hcur, hlen]; simp; omega
      have hb1 : k.toNat < cur.length := by omega
      have hb2 : k.toNat - 1 < (cur.set k.toNat y).length := by rw [List.length_set]; omega
      clear hcur
      refine Cd.seq ?_
      refine Cd.seq ?_
      refine Cd.region ?_
      refine Seg.step rfl rfl (Yd.move rfl) ?_
      refine Seg.step rfl rfl (Yd.move rfl) ?_
      refine Seg.step rfl rfl (Yd.gtr rfl rfl) ?_
      refine Seg.nil ?_
      refine At.then_ ?_
      refine Cd.condk rfl (fun h41 => ?_) (fun h41 => ?_)
      · refine Cd.skip ?_
        refine At.then_ ?_
        refine Cd.seq ?_
        refine Cd.block ?_
        refine Cd.anyE (by kernel_rfl) (fun w47 hE47 => ?_)
        replace hWr := Wr.trans hWr (Ext.wr hE47 _)
        replace hB := hB.ext hE47
        refine SegA.pure 0 rfl (by kernel_rfl) (by kernel_rfl) (by kernel_rfl) rfl rfl (fun _ => Yd.move rfl) ?_
        refine SegA.pure 1 rfl (by kernel_rfl) (by kernel_rfl) (by kernel_rfl) rfl rfl (fun _ => Yd.move rfl) ?_
        refine SegA.pure 2 rfl (by kernel_rfl) (by kernel_rfl) (by kernel_rfl) rfl rfl (fun _ => Yd.move rfl) ?_
        refine SegA.pure 3 rfl (by kernel_rfl) (by kernel_rfl) (by kernel_rfl) rfl rfl (fun _ => Yd.move rfl) ?_
        refine SegA.pure 4 rfl (by kernel_rfl) (by kernel_rfl) (by kernel_rfl) rfl rfl (fun _ => Yd.subI rfl rfl (by omega)) ?_
        refine SegA.pure 5 rfl (by kernel_rfl) (by kernel_rfl) (by kernel_rfl) rfl rfl (fun _ => Yd.move rfl) ?_
        refine SegA.pure 6 rfl (by kernel_rfl) (by kernel_rfl) (by kernel_rfl) rfl rfl (fun _ => Yd.move rfl) ?_
        refine SegA.pure 7 rfl (by kernel_rfl) (by kernel_rfl) (by kernel_rfl) rfl rfl (fun _ => Yd.subI rfl rfl (by omega)) ?_
        refine SegA.pure 8 rfl (by kernel_rfl) (by kernel_rfl) (by kernel_rfl) rfl rfl (fun _ => Yd.indexAddr rfl rfl rfl (NatOf.sub (NatOf.self (by omega)) (NatOf.cast 1) (by omega)) (by omega)) ?_
        refine SegA.pure 10 rfl (by kernel_rfl) (by kernel_rfl) (by kernel_rfl) rfl rfl (fun _ => Yd.move rfl) ?_
        refine SegA.pure 11 rfl (by kernel_rfl) (by kernel_rfl) (by kernel_rfl) rfl rfl (fun _ => Yd.move rfl) ?_
        refine SegA.pure 12 rfl (by kernel_rfl) (by kernel_rfl) (by kernel_rfl) rfl rfl (fun _ => Yd.indexAddr rfl rfl rfl (NatOf.self (by omega)) (by omega)) ?_
        refine SegA.held 15 ?_
        refine SegG.take 9 rfl (by kernel_rfl) (by kernel_rfl) (by kernel_rfl) (by kernel_rfl) (by kernel_rfl) rfl rfl (fun w' hw' => Yd.loadN rfl rfl rfl ((cur_row hB gy).ext hw')) ?_
        refine SegG.take 13 rfl (by kernel_rfl) (by kernel_rfl) (by kernel_rfl) (by kernel_rfl) (by kernel_rfl) rfl rfl (fun w' hw' => Yd.loadN rfl rfl rfl ((cur_row hB gx).ext hw')) ?_
        refine SegG.take 14 rfl (by kernel_rfl) (by kernel_rfl) (by kernel_rfl) (by kernel_rfl) (by kernel_rfl) rfl rfl (fun w' hw' => Yd.indexAddr rfl rfl rfl (NatOf.self (by omega)) (by omega)) ?_
        refine SegG.oneSeg (o := ⟨_, _, _, _, _, _⟩) 15 rfl (by kernel_rfl) ?_
        (refine Seg.storeMid rfl rfl rfl rfl hB (room hb1) (celOneA y) (fun w65 hW65 hB65 => ?_); replace hB := cur_set hb1 hB65; clear hB65; replace hWr := hWr.trans hW65)
        refine SegG.end_ rfl ?_
        refine SegA.pure 16 rfl (by kernel_rfl) (by kernel_rfl) (by kernel_rfl) rfl rfl (fun _ => Yd.indexAddr rfl rfl rfl (NatOf.sub (NatOf.self (by omega)) (NatOf.cast 1) (by omega)) (by omega)) ?_
        refine SegA.oneSeg (o := ⟨_, _, _, _, _, _⟩) 17 rfl (by kernel_rfl) ?_
        (refine Seg.storeMid rfl rfl rfl rfl hB (room hb2) (celOneA x) (fun w69 hW69 hB69 => ?_); replace hB := cur_set hb2 hB69; clear hB69; replace hWr := hWr.trans hW69)
        refine SegA.back ?_
        refine SegA.done (by kernel_rfl) ?_
        refine At.blk ?_
        refine At.then_ ?_
        refine Cd.region ?_
        refine Seg.step rfl rfl (Yd.move rfl) ?_
        refine Seg.step rfl rfl (Yd.subI rfl rfl (by omega)) ?_
        refine Seg.step rfl rfl (Yd.assign rfl) ?_
        refine Seg.nil ?_
        exact At.round (⟨S1, y :: S2, k - 1⟩ : Shf) (.cons rfl (.cons rfl (.cons rfl (.nil _)))) ⟨⟨by (rw [← hS]); simp, by show k - 1 = ((A.length + L1.length + S1.length : Nat) : Int); omega⟩, hsw ▸ hB, hWr⟩ (by show S1.length < (S1 ++ [y]).length; simp)
      · exfalso; omega
end Go.Proofs.Ytccppgpedlfjdaa
