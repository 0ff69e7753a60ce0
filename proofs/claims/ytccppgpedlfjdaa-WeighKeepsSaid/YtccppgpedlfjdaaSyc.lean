/- Stable sorting: the walk of symMerge. -/
import Derived.Test.YtccppgpedlfjdaaSyb
namespace Go.Proofs.Ytccppgpedlfjdaa
open Go Go.RowKit
/-- What symMerge is to do with halves of so many elements together. -/
def SymOk (len : Nat) : Prop := ∀ (A L R B : List El) (zs : List Value) (b N cap : Nat) (p q r : Int) (w : World), L.length + R.length ≤ len → 0 < L.length → 0 < R.length → Srtd key L → Srtd key R → N = (A ++ ((L ++ R) ++ B)).length → N ≤ 1000000 →
  Bx w b ((A ++ ((L ++ R) ++ B)).flatMap cel ++ zs) → p = (A.length : Nat) → q = ((A.length + L.length : Nat) : Int) → r = ((A.length + L.length + R.length : Nat) : Int) →
    Ret Try.prog 37 #[dataV b N cap, .int .i64 p, .int .i64 q, .int .i64 r, cmpV] w fun _ w' => ∃ Y, Bx w' b ((A ++ (Y ++ B)).flatMap cel ++ zs) ∧ Wr b w w' ∧ Srtd key Y ∧ SameBy key (L ++ R) Y
/-- Where the halves are cut. -/
theorem cut_of {L R : List El} {s0 r0 st a m bb mid : Int} (hL : Srtd key L) (hR : Srtd key R) (hm : m = a + (L.length : Nat)) (hb : bb = m + (R.length : Nat)) (hst : s0 ≤ st ∧ st ≤ r0) (h0 : a ≤ s0 ∧ r0 ≤ m ∧ r0 ≤ mid ∧ mid + m - bb ≤ s0 ∧ (s0 = a ∨ s0 = mid + m - bb) ∧ (r0 = m ∨ r0 = mid))
    (hlo : ∀ (u v : Nat) x y, (u : Int) + a < st → s0 ≤ (u : Int) + a → (v : Int) = mid - 1 - a - u → L[u]? = some x → R[v]? = some y → ¬ key y < key x)
    (hhi : ∀ (u v : Nat) x y, st ≤ (u : Int) + a → (u : Int) + a < r0 → (v : Int) = mid - 1 - a - u → L[u]? = some x → R[v]? = some y → key y < key x) :
    ∃ L1 U V R2, L = L1 ++ U ∧ R = V ++ R2 ∧ (L1.length : Int) = st - a ∧ (V.length : Int) = mid - st ∧ (∀ u ∈ U, ∀ v ∈ V, key v < key u) ∧ (∀ x ∈ L1, ∀ y ∈ R2, key x ≤ key y) := by
  obtain ⟨u, hu⟩ : ∃ u : Nat, (u : Int) = st - a := ⟨(st - a).toNat, by omega⟩
  obtain ⟨v, hv⟩ : ∃ v : Nat, (v : Int) = mid - st := ⟨(mid - st).toNat, by omega⟩
  have lu : (L.take u).length = u := by rw [List.length_take]; omega
  have lv : (R.take v).length = v := by rw [List.length_take]; omega
  refine ⟨L.take u, L.drop u, R.take v, R.drop v, (List.take_append_drop _ _).symm, (List.take_append_drop _ _).symm, by rw [lu]; exact hu, by rw [lv]; exact hv, fun x hx y hy => ?_, fun x hx y hy => ?_⟩
  · obtain ⟨c, hc⟩ := List.getElem?_of_mem hx
    obtain ⟨d, hd⟩ := List.getElem?_of_mem hy
    have hdl := (List.getElem?_eq_some_iff.1 hd).1
    rw [lv] at hdl
    rw [List.getElem?_drop] at hc
    rw [List.getElem?_take_of_lt (by omega)] at hd
    have hcl := (List.getElem?_eq_some_iff.1 hc).1
    obtain ⟨x0, hx0⟩ : ∃ x0, L[u]? = some x0 := ⟨_, List.getElem?_eq_getElem (by omega)⟩
    obtain ⟨y0, hy0⟩ : ∃ y0, R[v - 1]? = some y0 := ⟨_, List.getElem?_eq_getElem (by omega)⟩
    have h1 := hhi u (v - 1) x0 y0 (by omega) (by omega) (by omega) hx0 hy0
    have h2 := hL.get hx0 hc (by omega)
    have h3 := hR.get hd hy0 (by omega)
    omega
  · obtain ⟨c, hc⟩ := List.getElem?_of_mem hx
    obtain ⟨d, hd⟩ := List.getElem?_of_mem hy
    have hcl := (List.getElem?_eq_some_iff.1 hc).1
    rw [lu] at hcl
    rw [List.getElem?_take_of_lt (by omega)] at hc
    rw [List.getElem?_drop] at hd
    have hdl := (List.getElem?_eq_some_iff.1 hd).1
    obtain ⟨x0, hx0⟩ : ∃ x0, L[u - 1]? = some x0 := ⟨_, List.getElem?_eq_getElem (by omega)⟩
    obtain ⟨y0, hy0⟩ : ∃ y0, R[v]? = some y0 := ⟨_, List.getElem?_eq_getElem (by omega)⟩
    have h1 := hlo (u - 1) v x0 y0 (by omega) (by omega) (by omega) hx0 hy0
    have h2 := hL.get hc hx0 (by omega)
    have h3 := hR.get hy0 hd (by omega)
    omega
set_option maxHeartbeats 1000000 in
theorem sym_main (len : Nat) (IH : SymOk len) (A L R B : List El) (zs : List Value) (b N cap : Nat) (p q r : Int) (w : World) (hlen : L.length + R.length ≤ len + 1) (hL1 : 1 < L.length) (hR1 : 1 < R.length) (hL : Srtd key L) (hRs : Srtd key R) (hN : N = (A ++ ((L ++ R) ++ B)).length) (hN' : N ≤ 1000000)
    (hB : Bx w b ((A ++ ((L ++ R) ++ B)).flatMap cel ++ zs)) (hp : p = (A.length : Nat)) (hq : q = ((A.length + L.length : Nat) : Int)) (hr : r = ((A.length + L.length + R.length : Nat) : Int)) :
    Ret Try.prog 37 #[dataV b N cap, .int .i64 p, .int .i64 q, .int .i64 r, cmpV] w fun _ w' => ∃ Y, Bx w' b ((A ++ (Y ++ B)).flatMap cel ++ zs) ∧ Wr b w w' ∧ Srtd key Y ∧ SameBy key (L ++ R) Y := by
  have hlenN : N = A.length + L.length + R.length + B.length := by rw [hN]; simp; omega
  have hWr : Wr b w w := Wr.here
  have hpr : 0 ≤ p + r ∧ p + r ≤ 9223372036854775807 := by omega
  refine Ret.body Try.func37 rfl Try.ntmps37 rfl ?_
  by_cases hmm : (p + r) / 2 < q
  · refine Cd.seq ?_
    refine Cd.seq ?_
    refine Cd.region ?_
    refine Seg.step rfl rfl (Yd.move rfl) ?_
    refine Seg.step rfl rfl (Yd.move rfl) ?_
    refine Seg.step rfl rfl (Yd.subI rfl rfl (by omega)) ?_
    refine Seg.step rfl rfl (Yd.eql rfl rfl) ?_
    refine Seg.nil ?_
    refine At.then_ ?_
    refine Cd.condk rfl (fun h11 => ?_) (fun h11 => ?_)
    · exfalso; omega
    refine Cd.skip ?_
    refine At.then_ ?_
    refine Cd.seq ?_
    refine Cd.seq ?_
    refine Cd.region ?_
    refine Seg.step rfl rfl (Yd.move rfl) ?_
    refine Seg.step rfl rfl (Yd.move rfl) ?_
    refine Seg.step rfl rfl (Yd.subI rfl rfl (by omega)) ?_
    refine Seg.step rfl rfl (Yd.eql rfl rfl) ?_
    refine Seg.nil ?_
    refine At.then_ ?_
    refine Cd.condk rfl (fun h24 => ?_) (fun h24 => ?_)
    · exfalso; omega
    refine Cd.skip ?_
    refine At.then_ ?_
    refine Cd.seq ?_
    refine Cd.region ?_
    refine Seg.step rfl rfl (Yd.move rfl) ?_
    refine Seg.step rfl rfl (Yd.move rfl) ?_
    refine Seg.step rfl rfl (Yd.addI rfl rfl (by omega)) ?_
    refine Seg.step rfl rfl (Yd.convN rfl rfl rfl (u64_idS (by omega))) ?_
    refine Seg.step rfl rfl (Yd.shr1 rfl rfl) ?_
    refine Seg.step rfl rfl (Yd.convN rfl rfl rfl (IntWalk.i64_in _ (by omega))) ?_
    refine Seg.step rfl rfl (Yd.assign rfl) ?_
    refine Seg.nil ?_
    refine At.then_ ?_
    refine Cd.seq ?_
    refine Cd.region ?_
    refine Seg.step rfl rfl (Yd.move rfl) ?_
    refine Seg.step rfl rfl (Yd.move rfl) ?_
    refine Seg.step rfl rfl (Yd.addI rfl rfl (by omega)) ?_
    refine Seg.step rfl rfl (Yd.assign rfl) ?_
    refine Seg.nil ?_
    refine At.then_ ?_
    refine Cd.seq ?_
    refine Cd.region ?_
    refine Seg.step rfl rfl (Yd.assign rfl) ?_
    refine Seg.step rfl rfl (Yd.assign rfl) ?_
    refine Seg.nil ?_
    refine At.then_ ?_
    refine Cd.seq ?_
    refine Cd.seq ?_
    refine Cd.region ?_
    refine Seg.step rfl rfl (Yd.move rfl) ?_
    refine Seg.step rfl rfl (Yd.move rfl) ?_
    refine Seg.step rfl rfl (Yd.gtr rfl rfl) ?_
    refine Seg.nil ?_
    refine At.then_ ?_
    refine Cd.condk rfl (fun h61 => ?_) (fun h61 => ?_)
    rotate_left 1
    · exfalso; omega
    rotate_right 1
    refine Cd.seq ?_
    refine Cd.region ?_
    refine Seg.step rfl rfl (Yd.move rfl) ?_
    refine Seg.step rfl rfl (Yd.move rfl) ?_
    refine Seg.step rfl rfl (Yd.subI rfl rfl (by omega)) ?_
    refine Seg.step rfl rfl (Yd.assign rfl) ?_
    refine Seg.nil ?_
    refine At.then_ ?_
    refine Cd.region ?_
    refine Seg.step rfl rfl (Yd.move rfl) ?_
    refine Seg.step rfl rfl (Yd.assign rfl) ?_
    refine Seg.nil ?_
    refine At.then_ ?_
    refine Cd.seq ?_
    refine Cd.region ?_
    refine Seg.step rfl rfl (Yd.move rfl) ?_
    refine Seg.step rfl rfl (Yd.subI rfl rfl (by omega)) ?_
    refine Seg.step rfl rfl (Yd.assign rfl) ?_
    refine Seg.nil ?_
    refine At.then_ ?_
    refine Cd.seq ?_
    refine Cd.block ?_
    generalize hmid : (p + r) / 2 = mid at *
    generalize hnn : mid + q = nn at *
    generalize hpp : nn - 1 = pp at *
    refine Cd.loop (σ := Bin) (fun s => [(0, dataV b N cap), (1, .int .i64 p), (2, .int .i64 q), (3, .int .i64 r), (4, cmpV), (18, .int .i64 mid), (19, .int .i64 nn), (20, .int .i64 s.i), (21, .int .i64 s.j), (22, .int .i64 pp)])
      (fun s w' => ((nn - r) ≤ s.i ∧ s.i ≤ s.j ∧ s.j ≤ mid) ∧ (∀ (u v : Nat) x y, (u : Int) + p < s.i → (nn - r) ≤ (u : Int) + p → (v : Int) = mid - 1 - p - u → L[u]? = some x → R[v]? = some y → ¬ key y < key x) ∧ (∀ (u v : Nat) x y, s.j ≤ (u : Int) + p → (u : Int) + p < mid → (v : Int) = mid - 1 - p - u → L[u]? = some x → R[v]? = some y → key y < key x) ∧ Bx w' b ((A ++ ((L ++ R) ++ B)).flatMap cel ++ zs) ∧ Wr b w w')
      (fun s => (s.j - s.i).toNat) ⟨(nn - r), mid⟩ (.cons rfl (.cons rfl (.cons rfl (.cons rfl (.cons rfl (.cons rfl (.cons rfl (.cons rfl (.cons rfl (.cons rfl (.nil _))))))))))) ⟨⟨Int.le_refl _, by show (nn - r) ≤ mid; omega, Int.le_refl _⟩, (fun u v x y h h' _ _ _ => by have h1 : (u : Int) + p < (nn - r) := h; exact absurd h1 (by omega)), (fun u v x y h h' _ _ _ => by have h1 : mid ≤ (u : Int) + p := h; exact absurd h1 (by omega)), hB, hWr⟩ ?_
    clear hB hWr
    rintro ⟨i, j⟩ w0 ⟨⟨hi1, hi2, hi3⟩, hlo, hhi, hB, hWr⟩
    simp only at hi1 hi2 hi3 hlo hhi hB ⊢
    have hm : 0 ≤ i + j ∧ i + j ≤ 9223372036854775807 := by omega
    by_cases hlt : i < j
    · have hh : i ≤ (i + j) / 2 ∧ (i + j) / 2 < j := by omega
      obtain ⟨c, hcv⟩ : ∃ c, c = (i + j) / 2 := ⟨_, rfl⟩
      obtain ⟨x, hx⟩ : ∃ x, L[(c - p).toNat]? = some x := ⟨_, List.getElem?_eq_getElem (by omega)⟩
      obtain ⟨y, hy⟩ : ∃ y, R[(mid - 1 - c).toNat]? = some y := ⟨_, List.getElem?_eq_getElem (by omega)⟩
      have gx : (A ++ ((L ++ R) ++ B))[((i + j) / 2).toNat]? = some x := by
        rw [← hcv, List.getElem?_append_right (by omega), show c.toNat - A.length = (c - p).toNat by omega, List.append_assoc, List.getElem?_append_left (by omega)]
        exact hx
      have gy : (A ++ ((L ++ R) ++ B))[pp.toNat - ((i + j) / 2).toNat]? = some y := by
        rw [← hcv, List.getElem?_append_right (by omega), List.append_assoc, List.getElem?_append_right (by omega), List.getElem?_append_left (by omega)]
        rw [show pp.toNat - c.toNat - A.length - L.length = (mid - 1 - c).toNat by omega]
        exact hy
      have hlo' : ¬ key y < key x → ∀ (u v : Nat) x y, (u : Int) + p < (i + j) / 2 + 1 → (nn - r) ≤ (u : Int) + p → (v : Int) = mid - 1 - p - u → L[u]? = some x → R[v]? = some y → ¬ key y < key x := fun hk u v x' y' h1 _ h3 h4 h5 => by
        have g1 := hL.get h4 hx (by omega)
        have g2 := hRs.get hy h5 (by omega)
        omega
      have hhi' : key y < key x → ∀ (u v : Nat) x y, (i + j) / 2 ≤ (u : Int) + p → (u : Int) + p < mid → (v : Int) = mid - 1 - p - u → L[u]? = some x → R[v]? = some y → key y < key x := fun hk u v x' y' h1 _ h3 h4 h5 => by
        have g1 := hL.get hx h4 (by omega)
        have g2 := hRs.get h5 hy (by omega)
        omega
      have hB2 := hB
      generalize hcur : A ++ ((L ++ R) ++ B) = cur at hB2 gx gy
      have hcl : cur.length = N := by rw [← hcur, hN]
      by_cases hk : key y < key x
      · refine Cd.seq ?_
        refine Cd.seq ?_
        refine Cd.region ?_
        refine Seg.step rfl rfl (Yd.move rfl) ?_
        refine Seg.step rfl rfl (Yd.move rfl) ?_
        refine Seg.step rfl rfl (Yd.lss rfl rfl) ?_
        refine Seg.nil ?_
        refine At.then_ ?_
        refine Cd.condk rfl (fun h70 => ?_) (fun h70 => ?_)
        · refine Cd.skip ?_
          refine At.then_ ?_
          refine Cd.block ?_
          refine Cd.seq ?_
          refine Cd.region ?_
          refine Seg.step rfl rfl (Yd.move rfl) ?_
          refine Seg.step rfl rfl (Yd.move rfl) ?_
          refine Seg.step rfl rfl (Yd.addI rfl rfl (by omega)) ?_
          refine Seg.step rfl rfl (Yd.convN rfl rfl rfl (u64_idS (by omega))) ?_
          refine Seg.step rfl rfl (Yd.shr1 rfl rfl) ?_
          refine Seg.step rfl rfl (Yd.convN rfl rfl rfl (IntWalk.i64_in _ (by omega))) ?_
          refine Seg.step rfl rfl (Yd.assign rfl) ?_
          refine Seg.nil ?_
          refine At.then_ ?_
          refine Cd.seq ?_
          refine Cd.anyE (by kernel_rfl) (fun w87 hE87 => ?_)
          replace hB := hB.ext hE87
          replace hWr := Wr.trans hWr (Ext.wr hE87 _)
          replace hB2 := hB2.ext hE87
          refine SegA.pure 0 rfl (by kernel_rfl) (by kernel_rfl) (by kernel_rfl) rfl rfl (fun _ => Yd.move rfl) ?_
          refine SegA.pure 1 rfl (by kernel_rfl) (by kernel_rfl) (by kernel_rfl) rfl rfl (fun _ => Yd.move rfl) ?_
          refine SegA.pure 2 rfl (by kernel_rfl) (by kernel_rfl) (by kernel_rfl) rfl rfl (fun _ => Yd.move rfl) ?_
          refine SegA.pure 3 rfl (by kernel_rfl) (by kernel_rfl) (by kernel_rfl) rfl rfl (fun _ => Yd.move rfl) ?_
          refine SegA.pure 4 rfl (by kernel_rfl) (by kernel_rfl) (by kernel_rfl) rfl rfl (fun _ => Yd.subI rfl rfl (by omega)) ?_
          refine SegA.pure 5 rfl (by kernel_rfl) (by kernel_rfl) (by kernel_rfl) rfl rfl (fun _ => Yd.indexAddr rfl rfl rfl (NatOf.sub (NatOf.self (by omega)) (NatOf.self (by omega)) (by omega)) (by omega)) ?_
          refine SegA.pure 7 rfl (by kernel_rfl) (by kernel_rfl) (by kernel_rfl) rfl rfl (fun _ => Yd.move rfl) ?_
          refine SegA.pure 8 rfl (by kernel_rfl) (by kernel_rfl) (by kernel_rfl) rfl rfl (fun _ => Yd.move rfl) ?_
          refine SegA.pure 9 rfl (by kernel_rfl) (by kernel_rfl) (by kernel_rfl) rfl rfl (fun _ => Yd.indexAddr rfl rfl rfl (NatOf.self (by omega)) (by omega)) ?_
          refine SegA.held 14 ?_
          refine SegG.take 6 rfl (by kernel_rfl) (by kernel_rfl) (by kernel_rfl) (by kernel_rfl) (by kernel_rfl) rfl rfl (fun w' hw' => Yd.loadN rfl rfl rfl ((cur_row hB2 gy).ext hw')) ?_
          refine SegG.take 10 rfl (by kernel_rfl) (by kernel_rfl) (by kernel_rfl) (by kernel_rfl) (by kernel_rfl) rfl rfl (fun w' hw' => Yd.loadN rfl rfl rfl ((cur_row hB2 gx).ext hw')) ?_
          refine SegG.oneSeg (o := ⟨_, _, _, _, _, _⟩) 11 rfl (by kernel_rfl) ?_
          (refine Seg.callv (first := []) rfl rfl rfl (own_of rfl) rfl (cmp_any y x _) ?_; rintro _ w101 ⟨⟨cc, rfl, hcc⟩, hE101⟩; have hc1 := hcc.2 hk)
          replace hE87 := Ext.trans hE87 hE101
          replace hB := hB.ext hE101
          replace hWr := Wr.trans hWr (Ext.wr hE101 _)
          replace hB2 := hB2.ext hE101
          refine SegG.back rfl (by first | assumption | exact Ext.refl _) ?_
          refine SegG.take 12 rfl (by kernel_rfl) (by kernel_rfl) (by kernel_rfl) (by kernel_rfl) (by kernel_rfl) rfl rfl (fun w' hw' => Yd.lss rfl rfl) ?_
          refine SegG.take 13 rfl (by kernel_rfl) (by kernel_rfl) (by kernel_rfl) (by kernel_rfl) (by kernel_rfl) rfl rfl (fun w' hw' => Yd.notp rfl) ?_
          refine SegG.done (by kernel_rfl) ?_
          refine At.then_ ?_
          refine Cd.condk rfl (fun h107 => ?_) (fun h107 => ?_)
          · exfalso; omega
          · refine Cd.region ?_
            refine Seg.step rfl rfl (Yd.move rfl) ?_
            refine Seg.step rfl rfl (Yd.assign rfl) ?_
            refine Seg.nil ?_
            refine At.blk ?_
            exact At.round (⟨i, (i + j) / 2⟩ : Bin) (.cons rfl (.cons rfl (.cons rfl (.cons rfl (.cons rfl (.cons rfl (.cons rfl (.cons rfl (.cons rfl (.cons rfl (.nil _))))))))))) ⟨⟨hi1, by show i ≤ (i + j) / 2; omega, by show (i + j) / 2 ≤ mid; omega⟩, hlo, hhi' hk, hB2, hWr⟩ (by show ((i + j) / 2 - i).toNat < (j - i).toNat; omega)
        · exfalso; omega
      · refine Cd.seq ?_
        refine Cd.seq ?_
        refine Cd.region ?_
        refine Seg.step rfl rfl (Yd.move rfl) ?_
        refine Seg.step rfl rfl (Yd.move rfl) ?_
        refine Seg.step rfl rfl (Yd.lss rfl rfl) ?_
        refine Seg.nil ?_
        refine At.then_ ?_
        refine Cd.condk rfl (fun h70 => ?_) (fun h70 => ?_)
        · refine Cd.skip ?_
          refine At.then_ ?_
          refine Cd.block ?_
          refine Cd.seq ?_
          refine Cd.region ?_
          refine Seg.step rfl rfl (Yd.move rfl) ?_
          refine Seg.step rfl rfl (Yd.move rfl) ?_
          refine Seg.step rfl rfl (Yd.addI rfl rfl (by omega)) ?_
          refine Seg.step rfl rfl (Yd.convN rfl rfl rfl (u64_idS (by omega))) ?_
          refine Seg.step rfl rfl (Yd.shr1 rfl rfl) ?_
          refine Seg.step rfl rfl (Yd.convN rfl rfl rfl (IntWalk.i64_in _ (by omega))) ?_
          refine Seg.step rfl rfl (Yd.assign rfl) ?_
          refine Seg.nil ?_
          refine At.then_ ?_
          refine Cd.seq ?_
          refine Cd.anyE (by kernel_rfl) (fun w87 hE87 => ?_)
          replace hB := hB.ext hE87
          replace hWr := Wr.trans hWr (Ext.wr hE87 _)
          replace hB2 := hB2.ext hE87
          refine SegA.pure 0 rfl (by kernel_rfl) (by kernel_rfl) (by kernel_rfl) rfl rfl (fun _ => Yd.move rfl) ?_
          refine SegA.pure 1 rfl (by kernel_rfl) (by kernel_rfl) (by kernel_rfl) rfl rfl (fun _ => Yd.move rfl) ?_
          refine SegA.pure 2 rfl (by kernel_rfl) (by kernel_rfl) (by kernel_rfl) rfl rfl (fun _ => Yd.move rfl) ?_
          refine SegA.pure 3 rfl (by kernel_rfl) (by kernel_rfl) (by kernel_rfl) rfl rfl (fun _ => Yd.move rfl) ?_
          refine SegA.pure 4 rfl (by kernel_rfl) (by kernel_rfl) (by kernel_rfl) rfl rfl (fun _ => Yd.subI rfl rfl (by omega)) ?_
          refine SegA.pure 5 rfl (by kernel_rfl) (by kernel_rfl) (by kernel_rfl) rfl rfl (fun _ => Yd.indexAddr rfl rfl rfl (NatOf.sub (NatOf.self (by omega)) (NatOf.self (by omega)) (by omega)) (by omega)) ?_
          refine SegA.pure 7 rfl (by kernel_rfl) (by kernel_rfl) (by kernel_rfl) rfl rfl (fun _ => Yd.move rfl) ?_
          refine SegA.pure 8 rfl (by kernel_rfl) (by kernel_rfl) (by kernel_rfl) rfl rfl (fun _ => Yd.move rfl) ?_
          refine SegA.pure 9 rfl (by kernel_rfl) (by kernel_rfl) (by kernel_rfl) rfl rfl (fun _ => Yd.indexAddr rfl rfl rfl (NatOf.self (by omega)) (by omega)) ?_
          refine SegA.held 14 ?_
          refine SegG.take 6 rfl (by kernel_rfl) (by kernel_rfl) (by kernel_rfl) (by kernel_rfl) (by kernel_rfl) rfl rfl (fun w' hw' => Yd.loadN rfl rfl rfl ((cur_row hB2 gy).ext hw')) ?_
          refine SegG.take 10 rfl (by kernel_rfl) (by kernel_rfl) (by kernel_rfl) (by kernel_rfl) (by kernel_rfl) rfl rfl (fun w' hw' => Yd.loadN rfl rfl rfl ((cur_row hB2 gx).ext hw')) ?_
          refine SegG.oneSeg (o := ⟨_, _, _, _, _, _⟩) 11 rfl (by kernel_rfl) ?_
          (refine Seg.callv (first := []) rfl rfl rfl (own_of rfl) rfl (cmp_any y x _) ?_; rintro _ w101 ⟨⟨cc, rfl, hcc⟩, hE101⟩; have hc1 : ¬ cc < 0 := fun h => hk (hcc.1 h))
          replace hE87 := Ext.trans hE87 hE101
          replace hB := hB.ext hE101
          replace hWr := Wr.trans hWr (Ext.wr hE101 _)
          replace hB2 := hB2.ext hE101
          refine SegG.back rfl (by first | assumption | exact Ext.refl _) ?_
          refine SegG.take 12 rfl (by kernel_rfl) (by kernel_rfl) (by kernel_rfl) (by kernel_rfl) (by kernel_rfl) rfl rfl (fun w' hw' => Yd.lss rfl rfl) ?_
          refine SegG.take 13 rfl (by kernel_rfl) (by kernel_rfl) (by kernel_rfl) (by kernel_rfl) (by kernel_rfl) rfl rfl (fun w' hw' => Yd.notp rfl) ?_
          refine SegG.done (by kernel_rfl) ?_
          refine At.then_ ?_
          refine Cd.condk rfl (fun h107 => ?_) (fun h107 => ?_)
          · refine Cd.region ?_
            refine Seg.step rfl rfl (Yd.move rfl) ?_
            refine Seg.step rfl rfl (Yd.addI rfl rfl (by omega)) ?_
            refine Seg.step rfl rfl (Yd.assign rfl) ?_
            refine Seg.nil ?_
            refine At.blk ?_
            exact At.round (⟨(i + j) / 2 + 1, j⟩ : Bin) (.cons rfl (.cons rfl (.cons rfl (.cons rfl (.cons rfl (.cons rfl (.cons rfl (.cons rfl (.cons rfl (.cons rfl (.nil _))))))))))) ⟨⟨by show (nn - r) ≤ (i + j) / 2 + 1; omega, by show (i + j) / 2 + 1 ≤ j; omega, hi3⟩, hlo' hk, hhi, hB2, hWr⟩ (by show (j - ((i + j) / 2 + 1)).toNat < (j - i).toNat; omega)
          · exfalso; omega
        · exfalso; omega
    · obtain rfl : i = j := by omega
      obtain ⟨L1, U, V, R2, rfl, rfl, hl1, hlv, hVU, hLR⟩ := cut_of (s0 := (nn - r)) (r0 := mid) (mid := mid) hL hRs (show q = p + (L.length : Nat) by omega) (show r = q + (R.length : Nat) by omega) ⟨hi1, hi3⟩ (by omega) hlo hhi
      clear hlo hhi
      rw [List.length_append] at *
      rw [List.length_append] at *
      replace hB : Bx w0 b ((A ++ (L1 ++ (U ++ (V ++ (R2 ++ B))))).flatMap cel ++ zs) := by simpa using hB
      have irot : 0 < U.length → 0 < V.length → ∀ w', Bx w' b ((A ++ (L1 ++ (U ++ (V ++ (R2 ++ B))))).flatMap cel ++ zs) → Ret Try.prog 39 #[dataV b N cap, .int .i64 i, .int .i64 q, .int .i64 (nn - i), cmpV] w' fun _ w'' => Bx w'' b ((A ++ (L1 ++ (V ++ (U ++ (R2 ++ B))))).flatMap cel ++ zs) ∧ Wr b w' w'' := fun h1 h2 w' h => by
        have := rot_any (A ++ L1) U V (R2 ++ B) zs b N cap i q (nn - i) w' h1 h2 (by simp; omega) hN' (by simpa using h) (by rw [List.length_append]; omega) (by rw [List.length_append]; omega) (by rw [List.length_append]; omega)
        simpa using this
      have i1 : 0 < L1.length → 0 < V.length → ∀ w', Bx w' b ((A ++ (L1 ++ (V ++ (U ++ (R2 ++ B))))).flatMap cel ++ zs) → Ret Try.prog 37 #[dataV b N cap, .int .i64 p, .int .i64 i, .int .i64 mid, cmpV] w' fun _ w'' => ∃ Y, Bx w'' b ((A ++ (Y ++ (U ++ (R2 ++ B)))).flatMap cel ++ zs) ∧ Wr b w' w'' ∧ Srtd key Y ∧ SameBy key (L1 ++ V) Y := fun h1 h2 w' h =>
        IH A L1 V (U ++ (R2 ++ B)) zs b N cap p i mid w' (by omega) h1 h2 hL.left hRs.left (by simp; omega) hN' (by simpa using h) hp (by omega) (by omega)
      have i2 : ∀ Y : List El, Y.length = L1.length + V.length → 0 < U.length → 0 < R2.length → ∀ w', Bx w' b ((A ++ (Y ++ (U ++ (R2 ++ B)))).flatMap cel ++ zs) → Ret Try.prog 37 #[dataV b N cap, .int .i64 mid, .int .i64 (nn - i), .int .i64 r, cmpV] w' fun _ w'' => ∃ Z, Bx w'' b ((A ++ (Y ++ (Z ++ B))).flatMap cel ++ zs) ∧ Wr b w' w'' ∧ Srtd key Z ∧ SameBy key (U ++ R2) Z := fun Y hYl h1 h2 w' h => by
        have := IH (A ++ Y) U R2 B zs b N cap mid (nn - i) r w' (by omega) h1 h2 hL.right hRs.right (by simp; omega) hN' (by simpa using h) (by rw [List.length_append]; omega) (by rw [List.length_append]; omega) (by rw [List.length_append]; omega)
        simpa using this
      have fin : ∀ Y Z w', Srtd key Y → SameBy key (L1 ++ V) Y → Srtd key Z → SameBy key (U ++ R2) Z → Bx w' b ((A ++ (Y ++ (Z ++ B))).flatMap cel ++ zs) → Wr b w w' → ∃ Y, Bx w' b ((A ++ (Y ++ B)).flatMap cel ++ zs) ∧ Wr b w w' ∧ Srtd key Y ∧ SameBy key ((L1 ++ U) ++ (V ++ R2)) Y := fun Y Z w' h1 h2 h3 h4 h5 h6 => by
        obtain ⟨g1, g2⟩ := halves hL hRs hVU hLR h1 h3 h2 h4
        exact ⟨Y ++ Z, by simpa using h5, h6, g1, g2⟩
      have c1 : ∀ w', Bx w' b ((A ++ (L1 ++ (V ++ (U ++ (R2 ++ B))))).flatMap cel ++ zs) → Bx w' b ((A ++ ((L1 ++ V) ++ (U ++ (R2 ++ B)))).flatMap cel ++ zs) := fun w' h => by simpa using h
      have c2 : ∀ (Y : List El) w', Bx w' b ((A ++ (Y ++ (U ++ (R2 ++ B)))).flatMap cel ++ zs) → Bx w' b ((A ++ (Y ++ ((U ++ R2) ++ B))).flatMap cel ++ zs) := fun Y w' h => by simpa using h
      have hyl : ∀ Y, SameBy key (L1 ++ V) Y → Y.length = L1.length + V.length := fun Y h => by have := h.len; simp at this; omega
      have hy0 : ¬ (0 < L1.length ∧ 0 < V.length) → Srtd key (L1 ++ V) := fun h => by
        have h1 : L1.length = 0 ∨ V.length = 0 := by omega
        rcases h1 with h1 | h1
        · rw [List.eq_nil_of_length_eq_zero h1]; exact hRs.left
        · rw [List.eq_nil_of_length_eq_zero h1, List.append_nil]; exact hL.left
      have hz0 : ¬ (0 < U.length ∧ 0 < R2.length) → Srtd key (U ++ R2) := fun h => by
        have h1 : U.length = 0 ∨ R2.length = 0 := by omega
        rcases h1 with h1 | h1
        · rw [List.eq_nil_of_length_eq_zero h1]; exact hRs.right
        · rw [List.eq_nil_of_length_eq_zero h1, List.append_nil]; exact hL.right
      by_cases hrot : 0 < U.length ∧ 0 < V.length
      · skip
        by_cases hr1 : 0 < L1.length ∧ 0 < V.length
        · by_cases hr2 : 0 < U.length ∧ 0 < R2.length
          · refine Cd.seq ?_
            refine Cd.seq ?_
            refine Cd.region ?_
            refine Seg.step rfl rfl (Yd.move rfl) ?_
            refine Seg.step rfl rfl (Yd.move rfl) ?_
            refine Seg.step rfl rfl (Yd.lss rfl rfl) ?_
            refine Seg.nil ?_
            refine At.then_ ?_
            refine Cd.condk rfl (fun h70 => ?_) (fun h70 => ?_)
            · exfalso; omega
            · refine Cd.exit ?_
              refine At.then_exit ?_
              refine At.then_exit ?_
              refine At.blk_same ?_
              refine At.then_ ?_
              refine Cd.seq ?_
              refine Cd.region ?_
              refine Seg.step rfl rfl (Yd.move rfl) ?_
              refine Seg.step rfl rfl (Yd.move rfl) ?_
              refine Seg.step rfl rfl (Yd.subI rfl rfl (by omega)) ?_
              refine Seg.step rfl rfl (Yd.assign rfl) ?_
              refine Seg.nil ?_
              refine At.then_ ?_
              refine Cd.seq ?_
              refine Cd.seq ?_
              refine Cd.region ?_
              refine Seg.step rfl rfl (Yd.move rfl) ?_
              refine Seg.step rfl rfl (Yd.move rfl) ?_
              refine Seg.step rfl rfl (Yd.lss rfl rfl) ?_
              refine Seg.step rfl rfl (Yd.move rfl) ?_
              refine Seg.gsplitp rfl rfl (fun h92 => ?_) (fun h92 => ?_)
              · refine Seg.step rfl rfl (Yd.move rfl) ?_
                refine Seg.step rfl rfl (Yd.move rfl) ?_
                refine Seg.step rfl rfl (Yd.lss rfl rfl) ?_
                refine Seg.step rfl rfl (Yd.pickT rfl rfl) ?_
                refine Seg.nil ?_
                refine At.then_ ?_
                refine Cd.condk rfl (fun h100 => ?_) (fun h100 => ?_)
                · refine Cd.region ?_
                  refine Seg.step rfl rfl (Yd.move rfl) ?_
                  refine Seg.step rfl rfl (Yd.move rfl) ?_
                  refine Seg.step rfl rfl (Yd.move rfl) ?_
                  refine Seg.step rfl rfl (Yd.move rfl) ?_
                  refine Seg.step rfl rfl (Yd.move rfl) ?_
                  (refine Seg.call rfl rfl (own_of rfl) rfl (irot hrot.1 hrot.2 _ hB) ?_; rintro _ w108 ⟨hB, hW108⟩; replace hWr := hWr.trans hW108)
                  refine Seg.nil ?_
                  refine At.then_ ?_
                  refine Cd.seq ?_
                  refine Cd.seq ?_
                  refine Cd.region ?_
                  refine Seg.step rfl rfl (Yd.move rfl) ?_
                  refine Seg.step rfl rfl (Yd.move rfl) ?_
                  refine Seg.step rfl rfl (Yd.lss rfl rfl) ?_
                  refine Seg.step rfl rfl (Yd.move rfl) ?_
                  refine Seg.gsplitp rfl rfl (fun h118 => ?_) (fun h118 => ?_)
                  · refine Seg.step rfl rfl (Yd.move rfl) ?_
                    refine Seg.step rfl rfl (Yd.move rfl) ?_
                    refine Seg.step rfl rfl (Yd.lss rfl rfl) ?_
                    refine Seg.step rfl rfl (Yd.pickT rfl rfl) ?_
                    refine Seg.nil ?_
                    refine At.then_ ?_
                    refine Cd.condk rfl (fun h126 => ?_) (fun h126 => ?_)
                    · refine Cd.region ?_
                      refine Seg.step rfl rfl (Yd.move rfl) ?_
                      refine Seg.step rfl rfl (Yd.move rfl) ?_
                      refine Seg.step rfl rfl (Yd.move rfl) ?_
                      refine Seg.step rfl rfl (Yd.move rfl) ?_
                      refine Seg.step rfl rfl (Yd.move rfl) ?_
                      (refine Seg.call rfl rfl (own_of rfl) rfl (i1 hr1.1 hr1.2 _ hB) ?_; rintro _ w134 ⟨Y, hB, hW134, hY, hYs⟩; replace hWr := hWr.trans hW134)
                      replace hW108 := Wr.trans hW108 hW134
                      refine Seg.nil ?_
                      refine At.then_ ?_
                      refine Cd.seq ?_
                      refine Cd.region ?_
                      refine Seg.step rfl rfl (Yd.move rfl) ?_
                      refine Seg.step rfl rfl (Yd.move rfl) ?_
                      refine Seg.step rfl rfl (Yd.lss rfl rfl) ?_
                      refine Seg.step rfl rfl (Yd.move rfl) ?_
                      refine Seg.gsplitp rfl rfl (fun h143 => ?_) (fun h143 => ?_)
                      · refine Seg.step rfl rfl (Yd.move rfl) ?_
                        refine Seg.step rfl rfl (Yd.move rfl) ?_
                        refine Seg.step rfl rfl (Yd.lss rfl rfl) ?_
                        refine Seg.step rfl rfl (Yd.pickT rfl rfl) ?_
                        refine Seg.nil ?_
                        refine At.then_ ?_
                        refine Cd.condk rfl (fun h151 => ?_) (fun h151 => ?_)
                        · refine Cd.region ?_
                          refine Seg.step rfl rfl (Yd.move rfl) ?_
                          refine Seg.step rfl rfl (Yd.move rfl) ?_
                          refine Seg.step rfl rfl (Yd.move rfl) ?_
                          refine Seg.step rfl rfl (Yd.move rfl) ?_
                          refine Seg.step rfl rfl (Yd.move rfl) ?_
                          (refine Seg.call rfl rfl (own_of rfl) rfl (i2 Y (hyl Y hYs) hr2.1 hr2.2 _ hB) ?_; rintro _ w159 ⟨Z, hB, hW159, hZ, hZs⟩; replace hWr := hWr.trans hW159)
                          replace hW134 := Wr.trans hW134 hW159
                          replace hW108 := Wr.trans hW108 hW159
                          refine Seg.nil ?_
                          exact At.fin Try.results37 .nil (fin Y Z _ hY hYs hZ hZs hB hWr)
                        · exfalso; omega
                      · exfalso; omega
                    · exfalso; omega
                  · exfalso; omega
                · exfalso; omega
              · exfalso; omega
          · refine Cd.seq ?_
            refine Cd.seq ?_
            refine Cd.region ?_
            refine Seg.step rfl rfl (Yd.move rfl) ?_
            refine Seg.step rfl rfl (Yd.move rfl) ?_
            refine Seg.step rfl rfl (Yd.lss rfl rfl) ?_
            refine Seg.nil ?_
            refine At.then_ ?_
            refine Cd.condk rfl (fun h70 => ?_) (fun h70 => ?_)
            · exfalso; omega
            · refine Cd.exit ?_
              refine At.then_exit ?_
              refine At.then_exit ?_
              refine At.blk_same ?_
              refine At.then_ ?_
              refine Cd.seq ?_
              refine Cd.region ?_
              refine Seg.step rfl rfl (Yd.move rfl) ?_
              refine Seg.step rfl rfl (Yd.move rfl) ?_
              refine Seg.step rfl rfl (Yd.subI rfl rfl (by omega)) ?_
              refine Seg.step rfl rfl (Yd.assign rfl) ?_
              refine Seg.nil ?_
              refine At.then_ ?_
              refine Cd.seq ?_
              refine Cd.seq ?_
              refine Cd.region ?_
              refine Seg.step rfl rfl (Yd.move rfl) ?_
              refine Seg.step rfl rfl (Yd.move rfl) ?_
              refine Seg.step rfl rfl (Yd.lss rfl rfl) ?_
              refine Seg.step rfl rfl (Yd.move rfl) ?_
              refine Seg.gsplitp rfl rfl (fun h92 => ?_) (fun h92 => ?_)
              · refine Seg.step rfl rfl (Yd.move rfl) ?_
                refine Seg.step rfl rfl (Yd.move rfl) ?_
                refine Seg.step rfl rfl (Yd.lss rfl rfl) ?_
                refine Seg.step rfl rfl (Yd.pickT rfl rfl) ?_
                refine Seg.nil ?_
                refine At.then_ ?_
                refine Cd.condk rfl (fun h100 => ?_) (fun h100 => ?_)
                · refine Cd.region ?_
                  refine Seg.step rfl rfl (Yd.move rfl) ?_
                  refine Seg.step rfl rfl (Yd.move rfl) ?_
                  refine Seg.step rfl rfl (Yd.move rfl) ?_
                  refine Seg.step rfl rfl (Yd.move rfl) ?_
                  refine Seg.step rfl rfl (Yd.move rfl) ?_
                  (refine Seg.call rfl rfl (own_of rfl) rfl (irot hrot.1 hrot.2 _ hB) ?_; rintro _ w108 ⟨hB, hW108⟩; replace hWr := hWr.trans hW108)
                  refine Seg.nil ?_
                  refine At.then_ ?_
                  refine Cd.seq ?_
                  refine Cd.seq ?_
                  refine Cd.region ?_
                  refine Seg.step rfl rfl (Yd.move rfl) ?_
                  refine Seg.step rfl rfl (Yd.move rfl) ?_
                  refine Seg.step rfl rfl (Yd.lss rfl rfl) ?_
                  refine Seg.step rfl rfl (Yd.move rfl) ?_
                  refine Seg.gsplitp rfl rfl (fun h118 => ?_) (fun h118 => ?_)
                  · refine Seg.step rfl rfl (Yd.move rfl) ?_
                    refine Seg.step rfl rfl (Yd.move rfl) ?_
                    refine Seg.step rfl rfl (Yd.lss rfl rfl) ?_
                    refine Seg.step rfl rfl (Yd.pickT rfl rfl) ?_
                    refine Seg.nil ?_
                    refine At.then_ ?_
                    refine Cd.condk rfl (fun h126 => ?_) (fun h126 => ?_)
                    · refine Cd.region ?_
                      refine Seg.step rfl rfl (Yd.move rfl) ?_
                      refine Seg.step rfl rfl (Yd.move rfl) ?_
                      refine Seg.step rfl rfl (Yd.move rfl) ?_
                      refine Seg.step rfl rfl (Yd.move rfl) ?_
                      refine Seg.step rfl rfl (Yd.move rfl) ?_
                      (refine Seg.call rfl rfl (own_of rfl) rfl (i1 hr1.1 hr1.2 _ hB) ?_; rintro _ w134 ⟨Y, hB, hW134, hY, hYs⟩; replace hWr := hWr.trans hW134)
                      replace hW108 := Wr.trans hW108 hW134
                      refine Seg.nil ?_
                      refine At.then_ ?_
                      refine Cd.seq ?_
                      refine Cd.region ?_
                      refine Seg.step rfl rfl (Yd.move rfl) ?_
                      refine Seg.step rfl rfl (Yd.move rfl) ?_
                      refine Seg.step rfl rfl (Yd.lss rfl rfl) ?_
                      refine Seg.step rfl rfl (Yd.move rfl) ?_
                      refine Seg.gsplitp rfl rfl (fun h143 => ?_) (fun h143 => ?_)
                      · refine Seg.step rfl rfl (Yd.move rfl) ?_
                        refine Seg.step rfl rfl (Yd.move rfl) ?_
                        refine Seg.step rfl rfl (Yd.lss rfl rfl) ?_
                        refine Seg.step rfl rfl (Yd.pickT rfl rfl) ?_
                        refine Seg.nil ?_
                        refine At.then_ ?_
                        refine Cd.condk rfl (fun h151 => ?_) (fun h151 => ?_)
                        · exfalso; omega
                        · refine Cd.skip ?_
                          exact At.fin Try.results37 .nil (fin Y (U ++ R2) _ hY hYs (hz0 hr2) (SameBy.refl _) (c2 Y _ hB) hWr)
                      · exfalso; omega
                    · exfalso; omega
                  · exfalso; omega
                · exfalso; omega
              · exfalso; omega
        · by_cases hr2 : 0 < U.length ∧ 0 < R2.length
          · refine Cd.seq ?_
            refine Cd.seq ?_
            refine Cd.region ?_
            refine Seg.step rfl rfl (Yd.move rfl) ?_
            refine Seg.step rfl rfl (Yd.move rfl) ?_
            refine Seg.step rfl rfl (Yd.lss rfl rfl) ?_
            refine Seg.nil ?_
            refine At.then_ ?_
            refine Cd.condk rfl (fun h70 => ?_) (fun h70 => ?_)
            · exfalso; omega
            · exfalso; omega
          · refine Cd.seq ?_
            refine Cd.seq ?_
            refine Cd.region ?_
            refine Seg.step rfl rfl (Yd.move rfl) ?_
            refine Seg.step rfl rfl (Yd.move rfl) ?_
            refine Seg.step rfl rfl (Yd.lss rfl rfl) ?_
            refine Seg.nil ?_
            refine At.then_ ?_
            refine Cd.condk rfl (fun h70 => ?_) (fun h70 => ?_)
            · exfalso; omega
            · refine Cd.exit ?_
              refine At.then_exit ?_
              refine At.then_exit ?_
              refine At.blk_same ?_
              refine At.then_ ?_
              refine Cd.seq ?_
              refine Cd.region ?_
              refine Seg.step rfl rfl (Yd.move rfl) ?_
              refine Seg.step rfl rfl (Yd.move rfl) ?_
              refine Seg.step rfl rfl (Yd.subI rfl rfl (by omega)) ?_
              refine Seg.step rfl rfl (Yd.assign rfl) ?_
              refine Seg.nil ?_
              refine At.then_ ?_
              refine Cd.seq ?_
              refine Cd.seq ?_
              refine Cd.region ?_
              refine Seg.step rfl rfl (Yd.move rfl) ?_
              refine Seg.step rfl rfl (Yd.move rfl) ?_
              refine Seg.step rfl rfl (Yd.lss rfl rfl) ?_
              refine Seg.step rfl rfl (Yd.move rfl) ?_
              refine Seg.gsplitp rfl rfl (fun h92 => ?_) (fun h92 => ?_)
              · refine Seg.step rfl rfl (Yd.move rfl) ?_
                refine Seg.step rfl rfl (Yd.move rfl) ?_
                refine Seg.step rfl rfl (Yd.lss rfl rfl) ?_
                refine Seg.step rfl rfl (Yd.pickT rfl rfl) ?_
                refine Seg.nil ?_
                refine At.then_ ?_
                refine Cd.condk rfl (fun h100 => ?_) (fun h100 => ?_)
                · refine Cd.region ?_
                  refine Seg.step rfl rfl (Yd.move rfl) ?_
                  refine Seg.step rfl rfl (Yd.move rfl) ?_
                  refine Seg.step rfl rfl (Yd.move rfl) ?_
                  refine Seg.step rfl rfl (Yd.move rfl) ?_
                  refine Seg.step rfl rfl (Yd.move rfl) ?_
                  (refine Seg.call rfl rfl (own_of rfl) rfl (irot hrot.1 hrot.2 _ hB) ?_; rintro _ w108 ⟨hB, hW108⟩; replace hWr := hWr.trans hW108)
                  refine Seg.nil ?_
                  refine At.then_ ?_
                  refine Cd.seq ?_
                  refine Cd.seq ?_
                  refine Cd.region ?_
                  refine Seg.step rfl rfl (Yd.move rfl) ?_
                  refine Seg.step rfl rfl (Yd.move rfl) ?_
                  refine Seg.step rfl rfl (Yd.lss rfl rfl) ?_
                  refine Seg.step rfl rfl (Yd.move rfl) ?_
                  refine Seg.gsplitp rfl rfl (fun h118 => ?_) (fun h118 => ?_)
                  · exfalso; omega
                  · refine Seg.skip rfl rfl ?_
                    refine Seg.skip rfl rfl ?_
                    refine Seg.skip rfl rfl ?_
                    refine Seg.step rfl rfl (Yd.pickF rfl rfl) ?_
                    refine Seg.nil ?_
                    refine At.then_ ?_
                    refine Cd.condF rfl ?_
                    refine Cd.skip ?_
                    refine At.then_ ?_
                    refine Cd.seq ?_
                    refine Cd.region ?_
                    refine Seg.step rfl rfl (Yd.move rfl) ?_
                    refine Seg.step rfl rfl (Yd.move rfl) ?_
                    refine Seg.step rfl rfl (Yd.lss rfl rfl) ?_
                    refine Seg.step rfl rfl (Yd.move rfl) ?_
                    refine Seg.gsplitp rfl rfl (fun h135 => ?_) (fun h135 => ?_)
                    · refine Seg.step rfl rfl (Yd.move rfl) ?_
                      refine Seg.step rfl rfl (Yd.move rfl) ?_
                      refine Seg.step rfl rfl (Yd.lss rfl rfl) ?_
                      refine Seg.step rfl rfl (Yd.pickT rfl rfl) ?_
                      refine Seg.nil ?_
                      refine At.then_ ?_
                      refine Cd.condk rfl (fun h143 => ?_) (fun h143 => ?_)
                      · exfalso; omega
                      · refine Cd.skip ?_
                        exact At.fin Try.results37 .nil (fin (L1 ++ V) (U ++ R2) _ (hy0 hr1) (SameBy.refl _) (hz0 hr2) (SameBy.refl _) (c2 (L1 ++ V) _ (c1 _ hB)) hWr)
                    · exfalso; omega
                · exfalso; omega
              · exfalso; omega
      · replace hB : Bx w0 b ((A ++ (L1 ++ (V ++ (U ++ (R2 ++ B))))).flatMap cel ++ zs) := (by
            have h1 : U.length = 0 ∨ V.length = 0 := by omega
            rcases h1 with h1 | h1 <;> have h2 := List.eq_nil_of_length_eq_zero h1 <;> subst h2 <;> simpa using hB)
        by_cases hr1 : 0 < L1.length ∧ 0 < V.length
        · by_cases hr2 : 0 < U.length ∧ 0 < R2.length
          · refine Cd.seq ?_
            refine Cd.seq ?_
            refine Cd.region ?_
            refine Seg.step rfl rfl (Yd.move rfl) ?_
            refine Seg.step rfl rfl (Yd.move rfl) ?_
            refine Seg.step rfl rfl (Yd.lss rfl rfl) ?_
            refine Seg.nil ?_
            refine At.then_ ?_
            refine Cd.condk rfl (fun h70 => ?_) (fun h70 => ?_)
            · exfalso; omega
            · exfalso; omega
          · refine Cd.seq ?_
            refine Cd.seq ?_
            refine Cd.region ?_
            refine Seg.step rfl rfl (Yd.move rfl) ?_
            refine Seg.step rfl rfl (Yd.move rfl) ?_
            refine Seg.step rfl rfl (Yd.lss rfl rfl) ?_
            refine Seg.nil ?_
            refine At.then_ ?_
            refine Cd.condk rfl (fun h70 => ?_) (fun h70 => ?_)
            · exfalso; omega
            · exfalso; omega
        · by_cases hr2 : 0 < U.length ∧ 0 < R2.length
          · refine Cd.seq ?_
            refine Cd.seq ?_
            refine Cd.region ?_
            refine Seg.step rfl rfl (Yd.move rfl) ?_
            refine Seg.step rfl rfl (Yd.move rfl) ?_
            refine Seg.step rfl rfl (Yd.lss rfl rfl) ?_
            refine Seg.nil ?_
            refine At.then_ ?_
            refine Cd.condk rfl (fun h70 => ?_) (fun h70 => ?_)
            · exfalso; omega
            · refine Cd.exit ?_
              refine At.then_exit ?_
              refine At.then_exit ?_
              refine At.blk_same ?_
              refine At.then_ ?_
              refine Cd.seq ?_
              refine Cd.region ?_
              refine Seg.step rfl rfl (Yd.move rfl) ?_
              refine Seg.step rfl rfl (Yd.move rfl) ?_
              refine Seg.step rfl rfl (Yd.subI rfl rfl (by omega)) ?_
              refine Seg.step rfl rfl (Yd.assign rfl) ?_
              refine Seg.nil ?_
              refine At.then_ ?_
              refine Cd.seq ?_
              refine Cd.seq ?_
              refine Cd.region ?_
              refine Seg.step rfl rfl (Yd.move rfl) ?_
              refine Seg.step rfl rfl (Yd.move rfl) ?_
              refine Seg.step rfl rfl (Yd.lss rfl rfl) ?_
              refine Seg.step rfl rfl (Yd.move rfl) ?_
              refine Seg.gsplitp rfl rfl (fun h92 => ?_) (fun h92 => ?_)
              · refine Seg.step rfl rfl (Yd.move rfl) ?_
                refine Seg.step rfl rfl (Yd.move rfl) ?_
                refine Seg.step rfl rfl (Yd.lss rfl rfl) ?_
                refine Seg.step rfl rfl (Yd.pickT rfl rfl) ?_
                refine Seg.nil ?_
                refine At.then_ ?_
                refine Cd.condk rfl (fun h100 => ?_) (fun h100 => ?_)
                · exfalso; omega
                · refine Cd.skip ?_
                  refine At.then_ ?_
                  refine Cd.seq ?_
                  refine Cd.seq ?_
                  refine Cd.region ?_
                  refine Seg.step rfl rfl (Yd.move rfl) ?_
                  refine Seg.step rfl rfl (Yd.move rfl) ?_
                  refine Seg.step rfl rfl (Yd.lss rfl rfl) ?_
                  refine Seg.step rfl rfl (Yd.move rfl) ?_
                  refine Seg.gsplitp rfl rfl (fun h111 => ?_) (fun h111 => ?_)
                  · refine Seg.step rfl rfl (Yd.move rfl) ?_
                    refine Seg.step rfl rfl (Yd.move rfl) ?_
                    refine Seg.step rfl rfl (Yd.lss rfl rfl) ?_
                    refine Seg.step rfl rfl (Yd.pickT rfl rfl) ?_
                    refine Seg.nil ?_
                    refine At.then_ ?_
                    refine Cd.condk rfl (fun h119 => ?_) (fun h119 => ?_)
                    · exfalso; omega
                    · refine Cd.skip ?_
                      refine At.then_ ?_
                      refine Cd.seq ?_
                      refine Cd.region ?_
                      refine Seg.step rfl rfl (Yd.move rfl) ?_
                      refine Seg.step rfl rfl (Yd.move rfl) ?_
                      refine Seg.step rfl rfl (Yd.lss rfl rfl) ?_
                      refine Seg.step rfl rfl (Yd.move rfl) ?_
                      refine Seg.gsplitp rfl rfl (fun h129 => ?_) (fun h129 => ?_)
                      · refine Seg.step rfl rfl (Yd.move rfl) ?_
                        refine Seg.step rfl rfl (Yd.move rfl) ?_
                        refine Seg.step rfl rfl (Yd.lss rfl rfl) ?_
                        refine Seg.step rfl rfl (Yd.pickT rfl rfl) ?_
                        refine Seg.nil ?_
                        refine At.then_ ?_
                        refine Cd.condk rfl (fun h137 => ?_) (fun h137 => ?_)
                        · refine Cd.region ?_
                          refine Seg.step rfl rfl (Yd.move rfl) ?_
                          refine Seg.step rfl rfl (Yd.move rfl) ?_
                          refine Seg.step rfl rfl (Yd.move rfl) ?_
                          refine Seg.step rfl rfl (Yd.move rfl) ?_
                          refine Seg.step rfl rfl (Yd.move rfl) ?_
                          (refine Seg.call rfl rfl (own_of rfl) rfl (i2 (L1 ++ V) (by simp) hr2.1 hr2.2 _ (c1 _ hB)) ?_; rintro _ w145 ⟨Z, hB, hW145, hZ, hZs⟩; replace hWr := hWr.trans hW145)
                          refine Seg.nil ?_
                          exact At.fin Try.results37 .nil (fin (L1 ++ V) Z _ (hy0 hr1) (SameBy.refl _) hZ hZs hB hWr)
                        · exfalso; omega
                      · exfalso; omega
                  · exfalso; omega
              · exfalso; omega
          · refine Cd.seq ?_
            refine Cd.seq ?_
            refine Cd.region ?_
            refine Seg.step rfl rfl (Yd.move rfl) ?_
            refine Seg.step rfl rfl (Yd.move rfl) ?_
            refine Seg.step rfl rfl (Yd.lss rfl rfl) ?_
            refine Seg.nil ?_
            refine At.then_ ?_
            refine Cd.condk rfl (fun h70 => ?_) (fun h70 => ?_)
            · exfalso; omega
            · exfalso; omega
  · refine Cd.seq ?_
    refine Cd.seq ?_
    refine Cd.region ?_
    refine Seg.step rfl rfl (Yd.move rfl) ?_
    refine Seg.step rfl rfl (Yd.move rfl) ?_
    refine Seg.step rfl rfl (Yd.subI rfl rfl (by omega)) ?_
    refine Seg.step rfl rfl (Yd.eql rfl rfl) ?_
    refine Seg.nil ?_
    refine At.then_ ?_
    refine Cd.condk rfl (fun h11 => ?_) (fun h11 => ?_)
    · exfalso; omega
    refine Cd.skip ?_
    refine At.then_ ?_
    refine Cd.seq ?_
    refine Cd.seq ?_
    refine Cd.region ?_
    refine Seg.step rfl rfl (Yd.move rfl) ?_
    refine Seg.step rfl rfl (Yd.move rfl) ?_
    refine Seg.step rfl rfl (Yd.subI rfl rfl (by omega)) ?_
    refine Seg.step rfl rfl (Yd.eql rfl rfl) ?_
    refine Seg.nil ?_
    refine At.then_ ?_
    refine Cd.condk rfl (fun h24 => ?_) (fun h24 => ?_)
    · exfalso; omega
    refine Cd.skip ?_
    refine At.then_ ?_
    refine Cd.seq ?_
    refine Cd.region ?_
    refine Seg.step rfl rfl (Yd.move rfl) ?_
    refine Seg.step rfl rfl (Yd.move rfl) ?_
    refine Seg.step rfl rfl (Yd.addI rfl rfl (by omega)) ?_
    refine Seg.step rfl rfl (Yd.convN rfl rfl rfl (u64_idS (by omega))) ?_
    refine Seg.step rfl rfl (Yd.shr1 rfl rfl) ?_
    refine Seg.step rfl rfl (Yd.convN rfl rfl rfl (IntWalk.i64_in _ (by omega))) ?_
    refine Seg.step rfl rfl (Yd.assign rfl) ?_
    refine Seg.nil ?_
    refine At.then_ ?_
    refine Cd.seq ?_
    refine Cd.region ?_
    refine Seg.step rfl rfl (Yd.move rfl) ?_
    refine Seg.step rfl rfl (Yd.move rfl) ?_
    refine Seg.step rfl rfl (Yd.addI rfl rfl (by omega)) ?_
    refine Seg.step rfl rfl (Yd.assign rfl) ?_
    refine Seg.nil ?_
    refine At.then_ ?_
    refine Cd.seq ?_
    refine Cd.region ?_
    refine Seg.step rfl rfl (Yd.assign rfl) ?_
    refine Seg.step rfl rfl (Yd.assign rfl) ?_
    refine Seg.nil ?_
    refine At.then_ ?_
    refine Cd.seq ?_
    refine Cd.seq ?_
    refine Cd.region ?_
    refine Seg.step rfl rfl (Yd.move rfl) ?_
    refine Seg.step rfl rfl (Yd.move rfl) ?_
    refine Seg.step rfl rfl (Yd.gtr rfl rfl) ?_
    refine Seg.nil ?_
    refine At.then_ ?_
    refine Cd.condk rfl (fun h61 => ?_) (fun h61 => ?_)
    · exfalso; omega
    refine Cd.seq ?_
    refine Cd.region ?_
    refine Seg.step rfl rfl (Yd.move rfl) ?_
    refine Seg.step rfl rfl (Yd.assign rfl) ?_
    refine Seg.nil ?_
    refine At.then_ ?_
    refine Cd.region ?_
    refine Seg.step rfl rfl (Yd.move rfl) ?_
    refine Seg.step rfl rfl (Yd.assign rfl) ?_
    refine Seg.nil ?_
    refine At.then_ ?_
    refine Cd.seq ?_
    refine Cd.region ?_
    refine Seg.step rfl rfl (Yd.move rfl) ?_
    refine Seg.step rfl rfl (Yd.subI rfl rfl (by omega)) ?_
    refine Seg.step rfl rfl (Yd.assign rfl) ?_
    refine Seg.nil ?_
    refine At.then_ ?_
    refine Cd.seq ?_
    refine Cd.block ?_
    generalize hmid : (p + r) / 2 = mid at *
    generalize hnn : mid + q = nn at *
    generalize hpp : nn - 1 = pp at *
    refine Cd.loop (σ := Bin) (fun s => [(0, dataV b N cap), (1, .int .i64 p), (2, .int .i64 q), (3, .int .i64 r), (4, cmpV), (18, .int .i64 mid), (19, .int .i64 nn), (20, .int .i64 s.i), (21, .int .i64 s.j), (22, .int .i64 pp)])
      (fun s w' => (p ≤ s.i ∧ s.i ≤ s.j ∧ s.j ≤ q) ∧ (∀ (u v : Nat) x y, (u : Int) + p < s.i → p ≤ (u : Int) + p → (v : Int) = mid - 1 - p - u → L[u]? = some x → R[v]? = some y → ¬ key y < key x) ∧ (∀ (u v : Nat) x y, s.j ≤ (u : Int) + p → (u : Int) + p < q → (v : Int) = mid - 1 - p - u → L[u]? = some x → R[v]? = some y → key y < key x) ∧ Bx w' b ((A ++ ((L ++ R) ++ B)).flatMap cel ++ zs) ∧ Wr b w w')
      (fun s => (s.j - s.i).toNat) ⟨p, q⟩ (.cons rfl (.cons rfl (.cons rfl (.cons rfl (.cons rfl (.cons rfl (.cons rfl (.cons rfl (.cons rfl (.cons rfl (.nil _))))))))))) ⟨⟨Int.le_refl _, by show p ≤ q; omega, Int.le_refl _⟩, (fun u v x y h h' _ _ _ => by have h1 : (u : Int) + p < p := h; exact absurd h1 (by omega)), (fun u v x y h h' _ _ _ => by have h1 : q ≤ (u : Int) + p := h; exact absurd h1 (by omega)), hB, hWr⟩ ?_
    clear hB hWr
    rintro ⟨i, j⟩ w0 ⟨⟨hi1, hi2, hi3⟩, hlo, hhi, hB, hWr⟩
    simp only at hi1 hi2 hi3 hlo hhi hB ⊢
    have hm : 0 ≤ i + j ∧ i + j ≤ 9223372036854775807 := by omega
    by_cases hlt : i < j
    · have hh : i ≤ (i + j) / 2 ∧ (i + j) / 2 < j := by omega
      obtain ⟨c, hcv⟩ : ∃ c, c = (i + j) / 2 := ⟨_, rfl⟩
      obtain ⟨x, hx⟩ : ∃ x, L[(c - p).toNat]? = some x := ⟨_, List.getElem?_eq_getElem (by omega)⟩
      obtain ⟨y, hy⟩ : ∃ y, R[(mid - 1 - c).toNat]? = some y := ⟨_, List.getElem?_eq_getElem (by omega)⟩
      have gx : (A ++ ((L ++ R) ++ B))[((i + j) / 2).toNat]? = some x := by
        rw [← hcv, List.getElem?_append_right (by omega), show c.toNat - A.length = (c - p).toNat by omega, List.append_assoc, List.getElem?_append_left (by omega)]
        exact hx
      have gy : (A ++ ((L ++ R) ++ B))[pp.toNat - ((i + j) / 2).toNat]? = some y := by
        rw [← hcv, List.getElem?_append_right (by omega), List.append_assoc, List.getElem?_append_right (by omega), List.getElem?_append_left (by omega)]
        rw [show pp.toNat - c.toNat - A.length - L.length = (mid - 1 - c).toNat by omega]
        exact hy
      have hlo' : ¬ key y < key x → ∀ (u v : Nat) x y, (u : Int) + p < (i + j) / 2 + 1 → p ≤ (u : Int) + p → (v : Int) = mid - 1 - p - u → L[u]? = some x → R[v]? = some y → ¬ key y < key x := fun hk u v x' y' h1 _ h3 h4 h5 => by
        have g1 := hL.get h4 hx (by omega)
        have g2 := hRs.get hy h5 (by omega)
        omega
      have hhi' : key y < key x → ∀ (u v : Nat) x y, (i + j) / 2 ≤ (u : Int) + p → (u : Int) + p < q → (v : Int) = mid - 1 - p - u → L[u]? = some x → R[v]? = some y → key y < key x := fun hk u v x' y' h1 _ h3 h4 h5 => by
        have g1 := hL.get hx h4 (by omega)
        have g2 := hRs.get h5 hy (by omega)
        omega
      have hB2 := hB
      generalize hcur : A ++ ((L ++ R) ++ B) = cur at hB2 gx gy
      have hcl : cur.length = N := by rw [← hcur, hN]
      by_cases hk : key y < key x
      · refine Cd.seq ?_
        refine Cd.seq ?_
        refine Cd.region ?_
        refine Seg.step rfl rfl (Yd.move rfl) ?_
        refine Seg.step rfl rfl (Yd.move rfl) ?_
        refine Seg.step rfl rfl (Yd.lss rfl rfl) ?_
        refine Seg.nil ?_
        refine At.then_ ?_
        refine Cd.condk rfl (fun h70 => ?_) (fun h70 => ?_)
        · refine Cd.skip ?_
          refine At.then_ ?_
          refine Cd.block ?_
          refine Cd.seq ?_
          refine Cd.region ?_
          refine Seg.step rfl rfl (Yd.move rfl) ?_
          refine Seg.step rfl rfl (Yd.move rfl) ?_
          refine Seg.step rfl rfl (Yd.addI rfl rfl (by omega)) ?_
          refine Seg.step rfl rfl (Yd.convN rfl rfl rfl (u64_idS (by omega))) ?_
          refine Seg.step rfl rfl (Yd.shr1 rfl rfl) ?_
          refine Seg.step rfl rfl (Yd.convN rfl rfl rfl (IntWalk.i64_in _ (by omega))) ?_
          refine Seg.step rfl rfl (Yd.assign rfl) ?_
          refine Seg.nil ?_
          refine At.then_ ?_
          refine Cd.seq ?_
          refine Cd.anyE (by kernel_rfl) (fun w87 hE87 => ?_)
          replace hB := hB.ext hE87
          replace hWr := Wr.trans hWr (Ext.wr hE87 _)
          replace hB2 := hB2.ext hE87
          refine SegA.pure 0 rfl (by kernel_rfl) (by kernel_rfl) (by kernel_rfl) rfl rfl (fun _ => Yd.move rfl) ?_
          refine SegA.pure 1 rfl (by kernel_rfl) (by kernel_rfl) (by kernel_rfl) rfl rfl (fun _ => Yd.move rfl) ?_
          refine SegA.pure 2 rfl (by kernel_rfl) (by kernel_rfl) (by kernel_rfl) rfl rfl (fun _ => Yd.move rfl) ?_
          refine SegA.pure 3 rfl (by kernel_rfl) (by kernel_rfl) (by kernel_rfl) rfl rfl (fun _ => Yd.move rfl) ?_
          refine SegA.pure 4 rfl (by kernel_rfl) (by kernel_rfl) (by kernel_rfl) rfl rfl (fun _ => Yd.subI rfl rfl (by omega)) ?_
          refine SegA.pure 5 rfl (by kernel_rfl) (by kernel_rfl) (by kernel_rfl) rfl rfl (fun _ => Yd.indexAddr rfl rfl rfl (NatOf.sub (NatOf.self (by omega)) (NatOf.self (by omega)) (by omega)) (by omega)) ?_
          refine SegA.pure 7 rfl (by kernel_rfl) (by kernel_rfl) (by kernel_rfl) rfl rfl (fun _ => Yd.move rfl) ?_
          refine SegA.pure 8 rfl (by kernel_rfl) (by kernel_rfl) (by kernel_rfl) rfl rfl (fun _ => Yd.move rfl) ?_
          refine SegA.pure 9 rfl (by kernel_rfl) (by kernel_rfl) (by kernel_rfl) rfl rfl (fun _ => Yd.indexAddr rfl rfl rfl (NatOf.self (by omega)) (by omega)) ?_
          refine SegA.held 14 ?_
          refine SegG.take 6 rfl (by kernel_rfl) (by kernel_rfl) (by kernel_rfl) (by kernel_rfl) (by kernel_rfl) rfl rfl (fun w' hw' => Yd.loadN rfl rfl rfl ((cur_row hB2 gy).ext hw')) ?_
          refine SegG.take 10 rfl (by kernel_rfl) (by kernel_rfl) (by kernel_rfl) (by kernel_rfl) (by kernel_rfl) rfl rfl (fun w' hw' => Yd.loadN rfl rfl rfl ((cur_row hB2 gx).ext hw')) ?_
          refine SegG.oneSeg (o := ⟨_, _, _, _, _, _⟩) 11 rfl (by kernel_rfl) ?_
          (refine Seg.callv (first := []) rfl rfl rfl (own_of rfl) rfl (cmp_any y x _) ?_; rintro _ w101 ⟨⟨cc, rfl, hcc⟩, hE101⟩; have hc1 := hcc.2 hk)
          replace hE87 := Ext.trans hE87 hE101
          replace hB := hB.ext hE101
          replace hWr := Wr.trans hWr (Ext.wr hE101 _)
          replace hB2 := hB2.ext hE101
          refine SegG.back rfl (by first | assumption | exact Ext.refl _) ?_
          refine SegG.take 12 rfl (by kernel_rfl) (by kernel_rfl) (by kernel_rfl) (by kernel_rfl) (by kernel_rfl) rfl rfl (fun w' hw' => Yd.lss rfl rfl) ?_
          refine SegG.take 13 rfl (by kernel_rfl) (by kernel_rfl) (by kernel_rfl) (by kernel_rfl) (by kernel_rfl) rfl rfl (fun w' hw' => Yd.notp rfl) ?_
          refine SegG.done (by kernel_rfl) ?_
          refine At.then_ ?_
          refine Cd.condk rfl (fun h107 => ?_) (fun h107 => ?_)
          · exfalso; omega
          · refine Cd.region ?_
            refine Seg.step rfl rfl (Yd.move rfl) ?_
            refine Seg.step rfl rfl (Yd.assign rfl) ?_
            refine Seg.nil ?_
            refine At.blk ?_
            exact At.round (⟨i, (i + j) / 2⟩ : Bin) (.cons rfl (.cons rfl (.cons rfl (.cons rfl (.cons rfl (.cons rfl (.cons rfl (.cons rfl (.cons rfl (.cons rfl (.nil _))))))))))) ⟨⟨hi1, by show i ≤ (i + j) / 2; omega, by show (i + j) / 2 ≤ q; omega⟩, hlo, hhi' hk, hB2, hWr⟩ (by show ((i + j) / 2 - i).toNat < (j - i).toNat; omega)
        · exfalso; omega
      · refine Cd.seq ?_
        refine Cd.seq ?_
        refine Cd.region ?_
        refine Seg.step rfl rfl (Yd.move rfl) ?_
        refine Seg.step rfl rfl (Yd.move rfl) ?_
        refine Seg.step rfl rfl (Yd.lss rfl rfl) ?_
        refine Seg.nil ?_
        refine At.then_ ?_
        refine Cd.condk rfl (fun h70 => ?_) (fun h70 => ?_)
        · refine Cd.skip ?_
          refine At.then_ ?_
          refine Cd.block ?_
          refine Cd.seq ?_
          refine Cd.region ?_
          refine Seg.step rfl rfl (Yd.move rfl) ?_
          refine Seg.step rfl rfl (Yd.move rfl) ?_
          refine Seg.step rfl rfl (Yd.addI rfl rfl (by omega)) ?_
          refine Seg.step rfl rfl (Yd.convN rfl rfl rfl (u64_idS (by omega))) ?_
          refine Seg.step rfl rfl (Yd.shr1 rfl rfl) ?_
          refine Seg.step rfl rfl (Yd.convN rfl rfl rfl (IntWalk.i64_in _ (by omega))) ?_
          refine Seg.step rfl rfl (Yd.assign rfl) ?_
          refine Seg.nil ?_
          refine At.then_ ?_
          refine Cd.seq ?_
          refine Cd.anyE (by kernel_rfl) (fun w87 hE87 => ?_)
          replace hB := hB.ext hE87
          replace hWr := Wr.trans hWr (Ext.wr hE87 _)
          replace hB2 := hB2.ext hE87
          refine SegA.pure 0 rfl (by kernel_rfl) (by kernel_rfl) (by kernel_rfl) rfl rfl (fun _ => Yd.move rfl) ?_
          refine SegA.pure 1 rfl (by kernel_rfl) (by kernel_rfl) (by kernel_rfl) rfl rfl (fun _ => Yd.move rfl) ?_
          refine SegA.pure 2 rfl (by kernel_rfl) (by kernel_rfl) (by kernel_rfl) rfl rfl (fun _ => Yd.move rfl) ?_
          refine SegA.pure 3 rfl (by kernel_rfl) (by kernel_rfl) (by kernel_rfl) rfl rfl (fun _ => Yd.move rfl) ?_
          refine SegA.pure 4 rfl (by kernel_rfl) (by kernel_rfl) (by kernel_rfl) rfl rfl (fun _ => Yd.subI rfl rfl (by omega)) ?_
          refine SegA.pure 5 rfl (by kernel_rfl) (by kernel_rfl) (by kernel_rfl) rfl rfl (fun _ => Yd.indexAddr rfl rfl rfl (NatOf.sub (NatOf.self (by omega)) (NatOf.self (by omega)) (by omega)) (by omega)) ?_
          refine SegA.pure 7 rfl (by kernel_rfl) (by kernel_rfl) (by kernel_rfl) rfl rfl (fun _ => Yd.move rfl) ?_
          refine SegA.pure 8 rfl (by kernel_rfl) (by kernel_rfl) (by kernel_rfl) rfl rfl (fun _ => Yd.move rfl) ?_
          refine SegA.pure 9 rfl (by kernel_rfl) (by kernel_rfl) (by kernel_rfl) rfl rfl (fun _ => Yd.indexAddr rfl rfl rfl (NatOf.self (by omega)) (by omega)) ?_
          refine SegA.held 14 ?_
          refine SegG.take 6 rfl (by kernel_rfl) (by kernel_rfl) (by kernel_rfl) (by kernel_rfl) (by kernel_rfl) rfl rfl (fun w' hw' => Yd.loadN rfl rfl rfl ((cur_row hB2 gy).ext hw')) ?_
          refine SegG.take 10 rfl (by kernel_rfl) (by kernel_rfl) (by kernel_rfl) (by kernel_rfl) (by kernel_rfl) rfl rfl (fun w' hw' => Yd.loadN rfl rfl rfl ((cur_row hB2 gx).ext hw')) ?_
          refine SegG.oneSeg (o := ⟨_, _, _, _, _, _⟩) 11 rfl (by kernel_rfl) ?_
          (refine Seg.callv (first := []) rfl rfl rfl (own_of rfl) rfl (cmp_any y x _) ?_; rintro _ w101 ⟨⟨cc, rfl, hcc⟩, hE101⟩; have hc1 : ¬ cc < 0 := fun h => hk (hcc.1 h))
          replace hE87 := Ext.trans hE87 hE101
          replace hB := hB.ext hE101
          replace hWr := Wr.trans hWr (Ext.wr hE101 _)
          replace hB2 := hB2.ext hE101
          refine SegG.back rfl (by first | assumption | exact Ext.refl _) ?_
          refine SegG.take 12 rfl (by kernel_rfl) (by kernel_rfl) (by kernel_rfl) (by kernel_rfl) (by kernel_rfl) rfl rfl (fun w' hw' => Yd.lss rfl rfl) ?_
          refine SegG.take 13 rfl (by kernel_rfl) (by kernel_rfl) (by kernel_rfl) (by kernel_rfl) (by kernel_rfl) rfl rfl (fun w' hw' => Yd.notp rfl) ?_
          refine SegG.done (by kernel_rfl) ?_
          refine At.then_ ?_
          refine Cd.condk rfl (fun h107 => ?_) (fun h107 => ?_)
          · refine Cd.region ?_
            refine Seg.step rfl rfl (Yd.move rfl) ?_
            refine Seg.step rfl rfl (Yd.addI rfl rfl (by omega)) ?_
            refine Seg.step rfl rfl (Yd.assign rfl) ?_
            refine Seg.nil ?_
            refine At.blk ?_
            exact At.round (⟨(i + j) / 2 + 1, j⟩ : Bin) (.cons rfl (.cons rfl (.cons rfl (.cons rfl (.cons rfl (.cons rfl (.cons rfl (.cons rfl (.cons rfl (.cons rfl (.nil _))))))))))) ⟨⟨by show p ≤ (i + j) / 2 + 1; omega, by show (i + j) / 2 + 1 ≤ j; omega, hi3⟩, hlo' hk, hhi, hB2, hWr⟩ (by show (j - ((i + j) / 2 + 1)).toNat < (j - i).toNat; omega)
          · exfalso; omega
        · exfalso; omega
    · obtain rfl : i = j := by omega
      obtain ⟨L1, U, V, R2, rfl, rfl, hl1, hlv, hVU, hLR⟩ := cut_of (s0 := p) (r0 := q) (mid := mid) hL hRs (show q = p + (L.length : Nat) by omega) (show r = q + (R.length : Nat) by omega) ⟨hi1, hi3⟩ (by omega) hlo hhi
      clear hlo hhi
      rw [List.length_append] at *
      rw [List.length_append] at *
      replace hB : Bx w0 b ((A ++ (L1 ++ (U ++ (V ++ (R2 ++ B))))).flatMap cel ++ zs) := by simpa using hB
      have irot : 0 < U.length → 0 < V.length → ∀ w', Bx w' b ((A ++ (L1 ++ (U ++ (V ++ (R2 ++ B))))).flatMap cel ++ zs) → Ret Try.prog 39 #[dataV b N cap, .int .i64 i, .int .i64 q, .int .i64 (nn - i), cmpV] w' fun _ w'' => Bx w'' b ((A ++ (L1 ++ (V ++ (U ++ (R2 ++ B))))).flatMap cel ++ zs) ∧ Wr b w' w'' := fun h1 h2 w' h => by
        have := rot_any (A ++ L1) U V (R2 ++ B) zs b N cap i q (nn - i) w' h1 h2 (by simp; omega) hN' (by simpa using h) (by rw [List.length_append]; omega) (by rw [List.length_append]; omega) (by rw [List.length_append]; omega)
        simpa using this
      have i1 : 0 < L1.length → 0 < V.length → ∀ w', Bx w' b ((A ++ (L1 ++ (V ++ (U ++ (R2 ++ B))))).flatMap cel ++ zs) → Ret Try.prog 37 #[dataV b N cap, .int .i64 p, .int .i64 i, .int .i64 mid, cmpV] w' fun _ w'' => ∃ Y, Bx w'' b ((A ++ (Y ++ (U ++ (R2 ++ B)))).flatMap cel ++ zs) ∧ Wr b w' w'' ∧ Srtd key Y ∧ SameBy key (L1 ++ V) Y := fun h1 h2 w' h =>
        IH A L1 V (U ++ (R2 ++ B)) zs b N cap p i mid w' (by omega) h1 h2 hL.left hRs.left (by simp; omega) hN' (by simpa using h) hp (by omega) (by omega)
      have i2 : ∀ Y : List El, Y.length = L1.length + V.length → 0 < U.length → 0 < R2.length → ∀ w', Bx w' b ((A ++ (Y ++ (U ++ (R2 ++ B)))).flatMap cel ++ zs) → Ret Try.prog 37 #[dataV b N cap, .int .i64 mid, .int .i64 (nn - i), .int .i64 r, cmpV] w' fun _ w'' => ∃ Z, Bx w'' b ((A ++ (Y ++ (Z ++ B))).flatMap cel ++ zs) ∧ Wr b w' w'' ∧ Srtd key Z ∧ SameBy key (U ++ R2) Z := fun Y hYl h1 h2 w' h => by
        have := IH (A ++ Y) U R2 B zs b N cap mid (nn - i) r w' (by omega) h1 h2 hL.right hRs.right (by simp; omega) hN' (by simpa using h) (by rw [List.length_append]; omega) (by rw [List.length_append]; omega) (by rw [List.length_append]; omega)
        simpa using this
      have fin : ∀ Y Z w', Srtd key Y → SameBy key (L1 ++ V) Y → Srtd key Z → SameBy key (U ++ R2) Z → Bx w' b ((A ++ (Y ++ (Z ++ B))).flatMap cel ++ zs) → Wr b w w' → ∃ Y, Bx w' b ((A ++ (Y ++ B)).flatMap cel ++ zs) ∧ Wr b w w' ∧ Srtd key Y ∧ SameBy key ((L1 ++ U) ++ (V ++ R2)) Y := fun Y Z w' h1 h2 h3 h4 h5 h6 => by
        obtain ⟨g1, g2⟩ := halves hL hRs hVU hLR h1 h3 h2 h4
        exact ⟨Y ++ Z, by simpa using h5, h6, g1, g2⟩
      have c1 : ∀ w', Bx w' b ((A ++ (L1 ++ (V ++ (U ++ (R2 ++ B))))).flatMap cel ++ zs) → Bx w' b ((A ++ ((L1 ++ V) ++ (U ++ (R2 ++ B)))).flatMap cel ++ zs) := fun w' h => by simpa using h
      have c2 : ∀ (Y : List El) w', Bx w' b ((A ++ (Y ++ (U ++ (R2 ++ B)))).flatMap cel ++ zs) → Bx w' b ((A ++ (Y ++ ((U ++ R2) ++ B))).flatMap cel ++ zs) := fun Y w' h => by simpa using h
      have hyl : ∀ Y, SameBy key (L1 ++ V) Y → Y.length = L1.length + V.length := fun Y h => by have := h.len; simp at this; omega
      have hy0 : ¬ (0 < L1.length ∧ 0 < V.length) → Srtd key (L1 ++ V) := fun h => by
        have h1 : L1.length = 0 ∨ V.length = 0 := by omega
        rcases h1 with h1 | h1
        · rw [List.eq_nil_of_length_eq_zero h1]; exact hRs.left
        · rw [List.eq_nil_of_length_eq_zero h1, List.append_nil]; exact hL.left
      have hz0 : ¬ (0 < U.length ∧ 0 < R2.length) → Srtd key (U ++ R2) := fun h => by
        have h1 : U.length = 0 ∨ R2.length = 0 := by omega
        rcases h1 with h1 | h1
        · rw [List.eq_nil_of_length_eq_zero h1]; exact hRs.right
        · rw [List.eq_nil_of_length_eq_zero h1, List.append_nil]; exact hL.right
      by_cases hrot : 0 < U.length ∧ 0 < V.length
      · skip
        by_cases hr1 : 0 < L1.length ∧ 0 < V.length
        · by_cases hr2 : 0 < U.length ∧ 0 < R2.length
          · refine Cd.seq ?_
            refine Cd.seq ?_
            refine Cd.region ?_
            refine Seg.step rfl rfl (Yd.move rfl) ?_
            refine Seg.step rfl rfl (Yd.move rfl) ?_
            refine Seg.step rfl rfl (Yd.lss rfl rfl) ?_
            refine Seg.nil ?_
            refine At.then_ ?_
            refine Cd.condk rfl (fun h70 => ?_) (fun h70 => ?_)
            · exfalso; omega
            · refine Cd.exit ?_
              refine At.then_exit ?_
              refine At.then_exit ?_
              refine At.blk_same ?_
              refine At.then_ ?_
              refine Cd.seq ?_
              refine Cd.region ?_
              refine Seg.step rfl rfl (Yd.move rfl) ?_
              refine Seg.step rfl rfl (Yd.move rfl) ?_
              refine Seg.step rfl rfl (Yd.subI rfl rfl (by omega)) ?_
              refine Seg.step rfl rfl (Yd.assign rfl) ?_
              refine Seg.nil ?_
              refine At.then_ ?_
              refine Cd.seq ?_
              refine Cd.seq ?_
              refine Cd.region ?_
              refine Seg.step rfl rfl (Yd.move rfl) ?_
              refine Seg.step rfl rfl (Yd.move rfl) ?_
              refine Seg.step rfl rfl (Yd.lss rfl rfl) ?_
              refine Seg.step rfl rfl (Yd.move rfl) ?_
              refine Seg.gsplitp rfl rfl (fun h92 => ?_) (fun h92 => ?_)
              · refine Seg.step rfl rfl (Yd.move rfl) ?_
                refine Seg.step rfl rfl (Yd.move rfl) ?_
                refine Seg.step rfl rfl (Yd.lss rfl rfl) ?_
                refine Seg.step rfl rfl (Yd.pickT rfl rfl) ?_
                refine Seg.nil ?_
                refine At.then_ ?_
                refine Cd.condk rfl (fun h100 => ?_) (fun h100 => ?_)
                · refine Cd.region ?_
                  refine Seg.step rfl rfl (Yd.move rfl) ?_
                  refine Seg.step rfl rfl (Yd.move rfl) ?_
                  refine Seg.step rfl rfl (Yd.move rfl) ?_
                  refine Seg.step rfl rfl (Yd.move rfl) ?_
                  refine Seg.step rfl rfl (Yd.move rfl) ?_
                  (refine Seg.call rfl rfl (own_of rfl) rfl (irot hrot.1 hrot.2 _ hB) ?_; rintro _ w108 ⟨hB, hW108⟩; replace hWr := hWr.trans hW108)
                  refine Seg.nil ?_
                  refine At.then_ ?_
                  refine Cd.seq ?_
                  refine Cd.seq ?_
                  refine Cd.region ?_
                  refine Seg.step rfl rfl (Yd.move rfl) ?_
                  refine Seg.step rfl rfl (Yd.move rfl) ?_
                  refine Seg.step rfl rfl (Yd.lss rfl rfl) ?_
                  refine Seg.step rfl rfl (Yd.move rfl) ?_
                  refine Seg.gsplitp rfl rfl (fun h118 => ?_) (fun h118 => ?_)
                  · refine Seg.step rfl rfl (Yd.move rfl) ?_
                    refine Seg.step rfl rfl (Yd.move rfl) ?_
                    refine Seg.step rfl rfl (Yd.lss rfl rfl) ?_
                    refine Seg.step rfl rfl (Yd.pickT rfl rfl) ?_
                    refine Seg.nil ?_
                    refine At.then_ ?_
                    refine Cd.condk rfl (fun h126 => ?_) (fun h126 => ?_)
                    · refine Cd.region ?_
                      refine Seg.step rfl rfl (Yd.move rfl) ?_
                      refine Seg.step rfl rfl (Yd.move rfl) ?_
                      refine Seg.step rfl rfl (Yd.move rfl) ?_
                      refine Seg.step rfl rfl (Yd.move rfl) ?_
                      refine Seg.step rfl rfl (Yd.move rfl) ?_
                      (refine Seg.call rfl rfl (own_of rfl) rfl (i1 hr1.1 hr1.2 _ hB) ?_; rintro _ w134 ⟨Y, hB, hW134, hY, hYs⟩; replace hWr := hWr.trans hW134)
                      replace hW108 := Wr.trans hW108 hW134
                      refine Seg.nil ?_
                      refine At.then_ ?_
                      refine Cd.seq ?_
                      refine Cd.region ?_
                      refine Seg.step rfl rfl (Yd.move rfl) ?_
                      refine Seg.step rfl rfl (Yd.move rfl) ?_
                      refine Seg.step rfl rfl (Yd.lss rfl rfl) ?_
                      refine Seg.step rfl rfl (Yd.move rfl) ?_
                      refine Seg.gsplitp rfl rfl (fun h143 => ?_) (fun h143 => ?_)
                      · refine Seg.step rfl rfl (Yd.move rfl) ?_
                        refine Seg.step rfl rfl (Yd.move rfl) ?_
                        refine Seg.step rfl rfl (Yd.lss rfl rfl) ?_
                        refine Seg.step rfl rfl (Yd.pickT rfl rfl) ?_
                        refine Seg.nil ?_
                        refine At.then_ ?_
                        refine Cd.condk rfl (fun h151 => ?_) (fun h151 => ?_)
                        · refine Cd.region ?_
                          refine Seg.step rfl rfl (Yd.move rfl) ?_
                          refine Seg.step rfl rfl (Yd.move rfl) ?_
                          refine Seg.step rfl rfl (Yd.move rfl) ?_
                          refine Seg.step rfl rfl (Yd.move rfl) ?_
                          refine Seg.step rfl rfl (Yd.move rfl) ?_
                          (refine Seg.call rfl rfl (own_of rfl) rfl (i2 Y (hyl Y hYs) hr2.1 hr2.2 _ hB) ?_; rintro _ w159 ⟨Z, hB, hW159, hZ, hZs⟩; replace hWr := hWr.trans hW159)
                          replace hW134 := Wr.trans hW134 hW159
                          replace hW108 := Wr.trans hW108 hW159
                          refine Seg.nil ?_
                          exact At.fin Try.results37 .nil (fin Y Z _ hY hYs hZ hZs hB hWr)
                        · exfalso; omega
                      · exfalso; omega
                    · exfalso; omega
                  · exfalso; omega
                · exfalso; omega
              · exfalso; omega
          · refine Cd.seq ?_
            refine Cd.seq ?_
            refine Cd.region ?_
            refine Seg.step rfl rfl (Yd.move rfl) ?_
            refine Seg.step rfl rfl (Yd.move rfl) ?_
            refine Seg.step rfl rfl (Yd.lss rfl rfl) ?_
            refine Seg.nil ?_
            refine At.then_ ?_
            refine Cd.condk rfl (fun h70 => ?_) (fun h70 => ?_)
            · exfalso; omega
            · exfalso; omega
        · by_cases hr2 : 0 < U.length ∧ 0 < R2.length
          · refine Cd.seq ?_
            refine Cd.seq ?_
            refine Cd.region ?_
            refine Seg.step rfl rfl (Yd.move rfl) ?_
            refine Seg.step rfl rfl (Yd.move rfl) ?_
            refine Seg.step rfl rfl (Yd.lss rfl rfl) ?_
            refine Seg.nil ?_
            refine At.then_ ?_
            refine Cd.condk rfl (fun h70 => ?_) (fun h70 => ?_)
            · exfalso; omega
            · refine Cd.exit ?_
              refine At.then_exit ?_
              refine At.then_exit ?_
              refine At.blk_same ?_
              refine At.then_ ?_
              refine Cd.seq ?_
              refine Cd.region ?_
              refine Seg.step rfl rfl (Yd.move rfl) ?_
              refine Seg.step rfl rfl (Yd.move rfl) ?_
              refine Seg.step rfl rfl (Yd.subI rfl rfl (by omega)) ?_
              refine Seg.step rfl rfl (Yd.assign rfl) ?_
              refine Seg.nil ?_
              refine At.then_ ?_
              refine Cd.seq ?_
              refine Cd.seq ?_
              refine Cd.region ?_
              refine Seg.step rfl rfl (Yd.move rfl) ?_
              refine Seg.step rfl rfl (Yd.move rfl) ?_
              refine Seg.step rfl rfl (Yd.lss rfl rfl) ?_
              refine Seg.step rfl rfl (Yd.move rfl) ?_
              refine Seg.gsplitp rfl rfl (fun h92 => ?_) (fun h92 => ?_)
              · refine Seg.step rfl rfl (Yd.move rfl) ?_
                refine Seg.step rfl rfl (Yd.move rfl) ?_
                refine Seg.step rfl rfl (Yd.lss rfl rfl) ?_
                refine Seg.step rfl rfl (Yd.pickT rfl rfl) ?_
                refine Seg.nil ?_
                refine At.then_ ?_
                refine Cd.condk rfl (fun h100 => ?_) (fun h100 => ?_)
                · refine Cd.region ?_
                  refine Seg.step rfl rfl (Yd.move rfl) ?_
                  refine Seg.step rfl rfl (Yd.move rfl) ?_
                  refine Seg.step rfl rfl (Yd.move rfl) ?_
                  refine Seg.step rfl rfl (Yd.move rfl) ?_
                  refine Seg.step rfl rfl (Yd.move rfl) ?_
                  (refine Seg.call rfl rfl (own_of rfl) rfl (irot hrot.1 hrot.2 _ hB) ?_; rintro _ w108 ⟨hB, hW108⟩; replace hWr := hWr.trans hW108)
                  refine Seg.nil ?_
                  refine At.then_ ?_
                  refine Cd.seq ?_
                  refine Cd.seq ?_
                  refine Cd.region ?_
                  refine Seg.step rfl rfl (Yd.move rfl) ?_
                  refine Seg.step rfl rfl (Yd.move rfl) ?_
                  refine Seg.step rfl rfl (Yd.lss rfl rfl) ?_
                  refine Seg.step rfl rfl (Yd.move rfl) ?_
                  refine Seg.gsplitp rfl rfl (fun h118 => ?_) (fun h118 => ?_)
                  · exfalso; omega
                  · refine Seg.skip rfl rfl ?_
                    refine Seg.skip rfl rfl ?_
                    refine Seg.skip rfl rfl ?_
                    refine Seg.step rfl rfl (Yd.pickF rfl rfl) ?_
                    refine Seg.nil ?_
                    refine At.then_ ?_
                    refine Cd.condF rfl ?_
                    refine Cd.skip ?_
                    refine At.then_ ?_
                    refine Cd.seq ?_
                    refine Cd.region ?_
                    refine Seg.step rfl rfl (Yd.move rfl) ?_
                    refine Seg.step rfl rfl (Yd.move rfl) ?_
                    refine Seg.step rfl rfl (Yd.lss rfl rfl) ?_
                    refine Seg.step rfl rfl (Yd.move rfl) ?_
                    refine Seg.gsplitp rfl rfl (fun h135 => ?_) (fun h135 => ?_)
                    · refine Seg.step rfl rfl (Yd.move rfl) ?_
                      refine Seg.step rfl rfl (Yd.move rfl) ?_
                      refine Seg.step rfl rfl (Yd.lss rfl rfl) ?_
                      refine Seg.step rfl rfl (Yd.pickT rfl rfl) ?_
                      refine Seg.nil ?_
                      refine At.then_ ?_
                      refine Cd.condk rfl (fun h143 => ?_) (fun h143 => ?_)
                      · refine Cd.region ?_
                        refine Seg.step rfl rfl (Yd.move rfl) ?_
                        refine Seg.step rfl rfl (Yd.move rfl) ?_
                        refine Seg.step rfl rfl (Yd.move rfl) ?_
                        refine Seg.step rfl rfl (Yd.move rfl) ?_
                        refine Seg.step rfl rfl (Yd.move rfl) ?_
                        (refine Seg.call rfl rfl (own_of rfl) rfl (i2 (L1 ++ V) (by simp) hr2.1 hr2.2 _ (c1 _ hB)) ?_; rintro _ w151 ⟨Z, hB, hW151, hZ, hZs⟩; replace hWr := hWr.trans hW151)
                        replace hW108 := Wr.trans hW108 hW151
                        refine Seg.nil ?_
                        exact At.fin Try.results37 .nil (fin (L1 ++ V) Z _ (hy0 hr1) (SameBy.refl _) hZ hZs hB hWr)
                      · exfalso; omega
                    · exfalso; omega
                · exfalso; omega
              · exfalso; omega
          · refine Cd.seq ?_
            refine Cd.seq ?_
            refine Cd.region ?_
            refine Seg.step rfl rfl (Yd.move rfl) ?_
            refine Seg.step rfl rfl (Yd.move rfl) ?_
            refine Seg.step rfl rfl (Yd.lss rfl rfl) ?_
            refine Seg.nil ?_
            refine At.then_ ?_
            refine Cd.condk rfl (fun h70 => ?_) (fun h70 => ?_)
            · exfalso; omega
            · refine Cd.exit ?_
              refine At.then_exit ?_
              refine At.then_exit ?_
              refine At.blk_same ?_
              refine At.then_ ?_
              refine Cd.seq ?_
              refine Cd.region ?_
              refine Seg.step rfl rfl (Yd.move rfl) ?_
              refine Seg.step rfl rfl (Yd.move rfl) ?_
              refine Seg.step rfl rfl (Yd.subI rfl rfl (by omega)) ?_
              refine Seg.step rfl rfl (Yd.assign rfl) ?_
              refine Seg.nil ?_
              refine At.then_ ?_
              refine Cd.seq ?_
              refine Cd.seq ?_
              refine Cd.region ?_
              refine Seg.step rfl rfl (Yd.move rfl) ?_
              refine Seg.step rfl rfl (Yd.move rfl) ?_
              refine Seg.step rfl rfl (Yd.lss rfl rfl) ?_
              refine Seg.step rfl rfl (Yd.move rfl) ?_
              refine Seg.gsplitp rfl rfl (fun h92 => ?_) (fun h92 => ?_)
              · refine Seg.step rfl rfl (Yd.move rfl) ?_
                refine Seg.step rfl rfl (Yd.move rfl) ?_
                refine Seg.step rfl rfl (Yd.lss rfl rfl) ?_
                refine Seg.step rfl rfl (Yd.pickT rfl rfl) ?_
                refine Seg.nil ?_
                refine At.then_ ?_
                refine Cd.condk rfl (fun h100 => ?_) (fun h100 => ?_)
                · refine Cd.region ?_
                  refine Seg.step rfl rfl (Yd.move rfl) ?_
                  refine Seg.step rfl rfl (Yd.move rfl) ?_
                  refine Seg.step rfl rfl (Yd.move rfl) ?_
                  refine Seg.step rfl rfl (Yd.move rfl) ?_
                  refine Seg.step rfl rfl (Yd.move rfl) ?_
                  (refine Seg.call rfl rfl (own_of rfl) rfl (irot hrot.1 hrot.2 _ hB) ?_; rintro _ w108 ⟨hB, hW108⟩; replace hWr := hWr.trans hW108)
                  refine Seg.nil ?_
                  refine At.then_ ?_
                  refine Cd.seq ?_
                  refine Cd.seq ?_
                  refine Cd.region ?_
                  refine Seg.step rfl rfl (Yd.move rfl) ?_
                  refine Seg.step rfl rfl (Yd.move rfl) ?_
                  refine Seg.step rfl rfl (Yd.lss rfl rfl) ?_
                  refine Seg.step rfl rfl (Yd.move rfl) ?_
                  refine Seg.gsplitp rfl rfl (fun h118 => ?_) (fun h118 => ?_)
                  · exfalso; omega
                  · refine Seg.skip rfl rfl ?_
                    refine Seg.skip rfl rfl ?_
                    refine Seg.skip rfl rfl ?_
                    refine Seg.step rfl rfl (Yd.pickF rfl rfl) ?_
                    refine Seg.nil ?_
                    refine At.then_ ?_
                    refine Cd.condF rfl ?_
                    refine Cd.skip ?_
                    refine At.then_ ?_
                    refine Cd.seq ?_
                    refine Cd.region ?_
                    refine Seg.step rfl rfl (Yd.move rfl) ?_
                    refine Seg.step rfl rfl (Yd.move rfl) ?_
                    refine Seg.step rfl rfl (Yd.lss rfl rfl) ?_
                    refine Seg.step rfl rfl (Yd.move rfl) ?_
                    refine Seg.gsplitp rfl rfl (fun h135 => ?_) (fun h135 => ?_)
                    · refine Seg.step rfl rfl (Yd.move rfl) ?_
                      refine Seg.step rfl rfl (Yd.move rfl) ?_
                      refine Seg.step rfl rfl (Yd.lss rfl rfl) ?_
                      refine Seg.step rfl rfl (Yd.pickT rfl rfl) ?_
                      refine Seg.nil ?_
                      refine At.then_ ?_
                      refine Cd.condk rfl (fun h143 => ?_) (fun h143 => ?_)
                      · exfalso; omega
                      · refine Cd.skip ?_
                        exact At.fin Try.results37 .nil (fin (L1 ++ V) (U ++ R2) _ (hy0 hr1) (SameBy.refl _) (hz0 hr2) (SameBy.refl _) (c2 (L1 ++ V) _ (c1 _ hB)) hWr)
                    · exfalso; omega
                · exfalso; omega
              · exfalso; omega
      · replace hB : Bx w0 b ((A ++ (L1 ++ (V ++ (U ++ (R2 ++ B))))).flatMap cel ++ zs) := (by
            have h1 : U.length = 0 ∨ V.length = 0 := by omega
            rcases h1 with h1 | h1 <;> have h2 := List.eq_nil_of_length_eq_zero h1 <;> subst h2 <;> simpa using hB)
        by_cases hr1 : 0 < L1.length ∧ 0 < V.length
        · by_cases hr2 : 0 < U.length ∧ 0 < R2.length
          · refine Cd.seq ?_
            refine Cd.seq ?_
            refine Cd.region ?_
            refine Seg.step rfl rfl (Yd.move rfl) ?_
            refine Seg.step rfl rfl (Yd.move rfl) ?_
            refine Seg.step rfl rfl (Yd.lss rfl rfl) ?_
            refine Seg.nil ?_
            refine At.then_ ?_
            refine Cd.condk rfl (fun h70 => ?_) (fun h70 => ?_)
            · exfalso; omega
            · exfalso; omega
          · refine Cd.seq ?_
            refine Cd.seq ?_
            refine Cd.region ?_
            refine Seg.step rfl rfl (Yd.move rfl) ?_
            refine Seg.step rfl rfl (Yd.move rfl) ?_
            refine Seg.step rfl rfl (Yd.lss rfl rfl) ?_
            refine Seg.nil ?_
            refine At.then_ ?_
            refine Cd.condk rfl (fun h70 => ?_) (fun h70 => ?_)
            · exfalso; omega
            · refine Cd.exit ?_
              refine At.then_exit ?_
              refine At.then_exit ?_
              refine At.blk_same ?_
              refine At.then_ ?_
              refine Cd.seq ?_
              refine Cd.region ?_
              refine Seg.step rfl rfl (Yd.move rfl) ?_
              refine Seg.step rfl rfl (Yd.move rfl) ?_
              refine Seg.step rfl rfl (Yd.subI rfl rfl (by omega)) ?_
              refine Seg.step rfl rfl (Yd.assign rfl) ?_
              refine Seg.nil ?_
              refine At.then_ ?_
              refine Cd.seq ?_
              refine Cd.seq ?_
              refine Cd.region ?_
              refine Seg.step rfl rfl (Yd.move rfl) ?_
              refine Seg.step rfl rfl (Yd.move rfl) ?_
              refine Seg.step rfl rfl (Yd.lss rfl rfl) ?_
              refine Seg.step rfl rfl (Yd.move rfl) ?_
              refine Seg.gsplitp rfl rfl (fun h92 => ?_) (fun h92 => ?_)
              · exfalso; omega
              · refine Seg.skip rfl rfl ?_
                refine Seg.skip rfl rfl ?_
                refine Seg.skip rfl rfl ?_
                refine Seg.step rfl rfl (Yd.pickF rfl rfl) ?_
                refine Seg.nil ?_
                refine At.then_ ?_
                refine Cd.condF rfl ?_
                refine Cd.skip ?_
                refine At.then_ ?_
                refine Cd.seq ?_
                refine Cd.seq ?_
                refine Cd.region ?_
                refine Seg.step rfl rfl (Yd.move rfl) ?_
                refine Seg.step rfl rfl (Yd.move rfl) ?_
                refine Seg.step rfl rfl (Yd.lss rfl rfl) ?_
                refine Seg.step rfl rfl (Yd.move rfl) ?_
                refine Seg.gsplitp rfl rfl (fun h110 => ?_) (fun h110 => ?_)
                · refine Seg.step rfl rfl (Yd.move rfl) ?_
                  refine Seg.step rfl rfl (Yd.move rfl) ?_
                  refine Seg.step rfl rfl (Yd.lss rfl rfl) ?_
                  refine Seg.step rfl rfl (Yd.pickT rfl rfl) ?_
                  refine Seg.nil ?_
                  refine At.then_ ?_
                  refine Cd.condk rfl (fun h118 => ?_) (fun h118 => ?_)
                  · refine Cd.region ?_
                    refine Seg.step rfl rfl (Yd.move rfl) ?_
                    refine Seg.step rfl rfl (Yd.move rfl) ?_
                    refine Seg.step rfl rfl (Yd.move rfl) ?_
                    refine Seg.step rfl rfl (Yd.move rfl) ?_
                    refine Seg.step rfl rfl (Yd.move rfl) ?_
                    (refine Seg.call rfl rfl (own_of rfl) rfl (i1 hr1.1 hr1.2 _ hB) ?_; rintro _ w126 ⟨Y, hB, hW126, hY, hYs⟩; replace hWr := hWr.trans hW126)
                    refine Seg.nil ?_
                    refine At.then_ ?_
                    refine Cd.seq ?_
                    refine Cd.region ?_
                    refine Seg.step rfl rfl (Yd.move rfl) ?_
                    refine Seg.step rfl rfl (Yd.move rfl) ?_
                    refine Seg.step rfl rfl (Yd.lss rfl rfl) ?_
                    refine Seg.step rfl rfl (Yd.move rfl) ?_
                    refine Seg.gsplitp rfl rfl (fun h135 => ?_) (fun h135 => ?_)
                    · exfalso; omega
                    · refine Seg.skip rfl rfl ?_
                      refine Seg.skip rfl rfl ?_
                      refine Seg.skip rfl rfl ?_
                      refine Seg.step rfl rfl (Yd.pickF rfl rfl) ?_
                      refine Seg.nil ?_
                      refine At.then_ ?_
                      refine Cd.condF rfl ?_
                      refine Cd.skip ?_
                      exact At.fin Try.results37 .nil (fin Y (U ++ R2) _ hY hYs (hz0 hr2) (SameBy.refl _) (c2 Y _ hB) hWr)
                  · exfalso; omega
                · exfalso; omega
        · by_cases hr2 : 0 < U.length ∧ 0 < R2.length
          · refine Cd.seq ?_
            refine Cd.seq ?_
            refine Cd.region ?_
            refine Seg.step rfl rfl (Yd.move rfl) ?_
            refine Seg.step rfl rfl (Yd.move rfl) ?_
            refine Seg.step rfl rfl (Yd.lss rfl rfl) ?_
            refine Seg.nil ?_
            refine At.then_ ?_
            refine Cd.condk rfl (fun h70 => ?_) (fun h70 => ?_)
            · exfalso; omega
            · exfalso; omega
          · refine Cd.seq ?_
            refine Cd.seq ?_
            refine Cd.region ?_
            refine Seg.step rfl rfl (Yd.move rfl) ?_
            refine Seg.step rfl rfl (Yd.move rfl) ?_
            refine Seg.step rfl rfl (Yd.lss rfl rfl) ?_
            refine Seg.nil ?_
            refine At.then_ ?_
            refine Cd.condk rfl (fun h70 => ?_) (fun h70 => ?_)
            · exfalso; omega
            · refine Cd.exit ?_
              refine At.then_exit ?_
              refine At.then_exit ?_
              refine At.blk_same ?_
              refine At.then_ ?_
              refine Cd.seq ?_
              refine Cd.region ?_
              refine Seg.step rfl rfl (Yd.move rfl) ?_
              refine Seg.step rfl rfl (Yd.move rfl) ?_
              refine Seg.step rfl rfl (Yd.subI rfl rfl (by omega)) ?_
              refine Seg.step rfl rfl (Yd.assign rfl) ?_
              refine Seg.nil ?_
              refine At.then_ ?_
              refine Cd.seq ?_
              refine Cd.seq ?_
              refine Cd.region ?_
              refine Seg.step rfl rfl (Yd.move rfl) ?_
              refine Seg.step rfl rfl (Yd.move rfl) ?_
              refine Seg.step rfl rfl (Yd.lss rfl rfl) ?_
              refine Seg.step rfl rfl (Yd.move rfl) ?_
              refine Seg.gsplitp rfl rfl (fun h92 => ?_) (fun h92 => ?_)
              · exfalso; omega
              · refine Seg.skip rfl rfl ?_
                refine Seg.skip rfl rfl ?_
                refine Seg.skip rfl rfl ?_
                refine Seg.step rfl rfl (Yd.pickF rfl rfl) ?_
                refine Seg.nil ?_
                refine At.then_ ?_
                refine Cd.condF rfl ?_
                refine Cd.skip ?_
                refine At.then_ ?_
                refine Cd.seq ?_
                refine Cd.seq ?_
                refine Cd.region ?_
                refine Seg.step rfl rfl (Yd.move rfl) ?_
                refine Seg.step rfl rfl (Yd.move rfl) ?_
                refine Seg.step rfl rfl (Yd.lss rfl rfl) ?_
                refine Seg.step rfl rfl (Yd.move rfl) ?_
                refine Seg.gsplitp rfl rfl (fun h110 => ?_) (fun h110 => ?_)
                · refine Seg.step rfl rfl (Yd.move rfl) ?_
                  refine Seg.step rfl rfl (Yd.move rfl) ?_
                  refine Seg.step rfl rfl (Yd.lss rfl rfl) ?_
                  refine Seg.step rfl rfl (Yd.pickT rfl rfl) ?_
                  refine Seg.nil ?_
                  refine At.then_ ?_
                  refine Cd.condk rfl (fun h118 => ?_) (fun h118 => ?_)
                  · exfalso; omega
                  · refine Cd.skip ?_
                    refine At.then_ ?_
                    refine Cd.seq ?_
                    refine Cd.region ?_
                    refine Seg.step rfl rfl (Yd.move rfl) ?_
                    refine Seg.step rfl rfl (Yd.move rfl) ?_
                    refine Seg.step rfl rfl (Yd.lss rfl rfl) ?_
                    refine Seg.step rfl rfl (Yd.move rfl) ?_
                    refine Seg.gsplitp rfl rfl (fun h128 => ?_) (fun h128 => ?_)
                    · exfalso; omega
                    · refine Seg.skip rfl rfl ?_
                      refine Seg.skip rfl rfl ?_
                      refine Seg.skip rfl rfl ?_
                      refine Seg.step rfl rfl (Yd.pickF rfl rfl) ?_
                      refine Seg.nil ?_
                      refine At.then_ ?_
                      refine Cd.condF rfl ?_
                      refine Cd.skip ?_
                      exact At.fin Try.results37 .nil (fin (L1 ++ V) (U ++ R2) _ (hy0 hr1) (SameBy.refl _) (hz0 hr2) (SameBy.refl _) (c2 (L1 ++ V) _ (c1 _ hB)) hWr)
                · exfalso; omega
end Go.Proofs.Ytccppgpedlfjdaa
