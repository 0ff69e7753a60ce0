/- Names: made small, and compared so; the walks. -/
import Derived.Test.YtidhelgoopdloaaNan
namespace Go.Proofs.Ytidhelgoopdloaa
open Go Go.RowKit
theorem lowN_step {l : List (List UInt8)} {i : Nat} (h : i < l.length) : strV (lowN (l.take i)) ++ [Value.string ⟨(lowS (l.getD i [])).toArray⟩] = strV (lowN (l.take (i + 1))) := by
  rw [List.take_succ_eq_append_getElem h, List.getD_eq_getElem?_getD, List.getElem?_eq_getElem h]
  simp only [strV, lowN, List.map_append, List.map_cons, List.map_nil, Option.getD_some]
theorem lowerN_any (xs : List (List UInt8)) (v0 : Value) (w : World) (h0 : NameAt w v0 xs) (hx : Fit xs) : Ret Try.prog 27 #[v0] w fun v w' => NameAt w' v (lowN xs) ∧ Ext w w' := by
  have hE0 := Ext.refl w
  obtain ⟨ao, c, rfl, hl0, hr0, hz0⟩ := h0
  have hx1 := hx.1
  refine Ret.body Try.func27 rfl Try.ntmps27 rfl ?_
  refine Cd.seq ?_
  refine Cd.region ?_
  refine Seg.step rfl rfl (Yd.assign rfl) ?_
  refine Seg.nil ?_
  refine At.then_ ?_
  refine Cd.seq ?_
  refine Cd.region ?_
  refine Seg.step rfl rfl (Yd.assign rfl) ?_
  refine Seg.nil ?_
  refine At.then_ ?_
  refine Cd.seq ?_
  refine Cd.seq ?_
  refine Cd.region ?_
  refine Seg.step rfl rfl (Yd.assign rfl) ?_
  refine Seg.nil ?_
  refine At.then_ ?_
  refine Cd.block ?_
  refine Cd.loop (σ := Nat × Value) (fun s => [(0, .slice ao xs.length c), (3, s.2), (4, .int .i64 s.1)])
    (fun s w' => s.1 ≤ xs.length ∧ w'.ownsRow w.heap.size 9 1 s.2 s.1 (strV (lowN (xs.take s.1))) ∧ Ext w w') (fun s => xs.length - s.1) (0, .slice none 0 0) (.cons rfl (.cons rfl (.cons rfl (.nil _))))
    ⟨Nat.zero_le _, World.ownsRow_nil _ _ _ _, hE0⟩ ?_
  clear hE0
  rintro ⟨i, v⟩ w0 ⟨hi, hO, hE0⟩
  simp only at hi hO ⊢
  by_cases hlt : i < xs.length
  · obtain ⟨a, rfl⟩ : ∃ a, ao = some a := by
      cases ao with
      | none => have := hz0 rfl; omega
      | some a => exact ⟨a, rfl⟩
    have hr0 := hr0 a rfl
    have hg := hx.get i
    refine Cd.seq ?_
    refine Cd.seq ?_
    refine Cd.region ?_
    refine Seg.step rfl rfl (Yd.move rfl) ?_
    refine Seg.step rfl rfl (Yd.move rfl) ?_
    refine Seg.step rfl rfl (Yd.lenS rfl rfl) ?_
    refine Seg.step rfl rfl (Yd.lss rfl rfl) ?_
    refine Seg.nil ?_
    refine At.then_ ?_
    refine Cd.condk rfl (fun h11 => ?_) (fun h11 => ?_)
    · refine Cd.skip ?_
      refine At.then_ ?_
      refine Cd.seq ?_
      refine Cd.block ?_
      refine Cd.region ?_
      refine Seg.step rfl rfl (Yd.move rfl) ?_
      refine Seg.step rfl rfl (Yd.move rfl) ?_
      refine Seg.step rfl rfl (Yd.move rfl) ?_
      refine Seg.step rfl rfl (Yd.indexAddr1 rfl rfl rfl (NatOf.cast _) (by omega)) ?_
      refine Seg.step rfl rfl (Yd.load1 rfl rfl ((hr0.ext hE0) _ _ (strV_get hlt))) ?_
      (refine Seg.call rfl rfl (own_of rfl) rfl (lowerS_any _ _ (by omega)) ?_; rintro _ w23 ⟨rfl, hE23⟩)
      replace hO := own_ext hO hE23
      replace hE0 := Ext.trans hE0 hE23
      refine Seg.buildSlice rfl rfl rfl rfl rfl rfl rfl rfl (fun w24 b24 hE24 hB24 hb24 hO24 => ?_)
      have hlt24_0 := Nat.le_trans hE23.size hb24
      have hlt24_1 := Nat.le_trans hE0.size hb24
      replace hE23 := Ext.trans hE23 hE24
      replace hO := own_ext hO hE24
      replace hE0 := Ext.trans hE0 hE24
      (refine Seg.append (news := [.string ⟨(lowS (xs.getD i [])).toArray⟩]) (m' := 1) rfl rfl rfl rfl rfl rfl rfl rfl rfl hO (own_sl (by assumption)) (fun c hc => by cases List.mem_singleton.1 hc; rfl) (Below.size hE0) (by omega) rfl (fun v25 w25 hN25 hG25 _ => ?_); rw [lowN_step hlt] at hN25; replace hE0 := hE0.own hO (Nat.le_refl _) hG25)
      refine Seg.step rfl rfl (Yd.assign rfl) ?_
      refine Seg.nil ?_
      refine At.blk ?_
      refine At.then_ ?_
      refine Cd.region ?_
      refine Seg.step rfl rfl (Yd.move rfl) ?_
      refine Seg.step rfl rfl (Yd.addI rfl rfl (by omega)) ?_
      refine Seg.step rfl rfl (Yd.assign rfl) ?_
      refine Seg.nil ?_
      exact At.round (i + 1, _) (.cons rfl (.cons rfl (.cons rfl (.nil _)))) ⟨by show _ + _ ≤ _; omega, by assumption, hE0⟩ (by show _ - _ < _ - _; omega)
    · exfalso; omega
  · obtain rfl : i = xs.length := by omega
    have hS : NameAt w0 v (lowN xs) := by
      have := own_sl hO
      rw [List.take_length] at this
      rw [NameAt, lowN_length]
      exact this
    refine Cd.seq ?_
    refine Cd.seq ?_
    refine Cd.region ?_
    refine Seg.step rfl rfl (Yd.move rfl) ?_
    refine Seg.step rfl rfl (Yd.move rfl) ?_
    refine Seg.step rfl rfl (Yd.lenS rfl rfl) ?_
    refine Seg.step rfl rfl (Yd.lss rfl rfl) ?_
    refine Seg.nil ?_
    refine At.then_ ?_
    refine Cd.condk rfl (fun h11 => ?_) (fun h11 => ?_)
    · exfalso; omega
    · refine Cd.exit ?_
      refine At.then_exit ?_
      refine At.then_exit ?_
      refine At.blk_same ?_
      refine At.then_ ?_
      refine Cd.seq ?_
      refine Cd.region ?_
      refine Seg.step rfl rfl (Yd.move rfl) ?_
      refine Seg.step rfl rfl (Yd.assign rfl) ?_
      refine Seg.nil ?_
      refine At.then_ ?_
      refine Cd.ret ?_
      exact At.ret Try.results27 (.tmp rfl .nil) ⟨hS, hE0⟩
theorem exact_any (xs ys : List (List UInt8)) (v0 v1 : Value) (w : World) (h0 : NameAt w v0 xs) (h1 : NameAt w v1 ys) (hx : xs.length ≤ 9223372036854775807) :
    Ret Try.prog 17 #[v0, v1] w fun v w' => v = .bool (decide (xs = ys)) ∧ Ext w w' := by
  have hE0 := Ext.refl w
  refine Ret.body Try.func17 rfl Try.ntmps17 rfl ?_
  refine Cd.seq ?_
  refine Cd.region ?_
  refine Seg.step rfl rfl (Yd.assign rfl) ?_
  refine Seg.nil ?_
  refine At.then_ ?_
  refine Cd.seq ?_
  refine Cd.region ?_
  refine Seg.step rfl rfl (Yd.move rfl) ?_
  refine Seg.step rfl rfl (Yd.move rfl) ?_
  (refine Seg.call rfl rfl (own_of rfl) rfl (sameT_any xs ys v0 v1 _ h0 h1 hx) ?_; rintro _ w11 ⟨rfl, hE11⟩)
  replace hE0 := Ext.trans hE0 hE11
  refine Seg.step rfl rfl (Yd.assign rfl) ?_
  refine Seg.nil ?_
  refine At.then_ ?_
  refine Cd.ret ?_
  exact At.ret Try.results17 (.tmp rfl .nil) ⟨rfl, hE0⟩
theorem same_any (xs ys : List (List UInt8)) (v0 v1 : Value) (w : World) (h0 : NameAt w v0 xs) (h1 : NameAt w v1 ys) (hx : Fit xs) (hy : Fit ys) :
    Ret Try.prog 15 #[v0, v1] w fun v w' => v = .bool (decide (lowN xs = lowN ys)) ∧ Ext w w' := by
  have hE0 := Ext.refl w
  refine Ret.body Try.func15 rfl Try.ntmps15 rfl ?_
  have hx1 := hx.1
  refine Cd.seq ?_
  refine Cd.region ?_
  refine Seg.step rfl rfl (Yd.assign rfl) ?_
  refine Seg.nil ?_
  refine At.then_ ?_
  refine Cd.seq ?_
  refine Cd.region ?_
  refine Seg.step rfl rfl (Yd.move rfl) ?_
  (refine Seg.call rfl rfl (own_of rfl) rfl (lowerN_any xs v0 _ h0 hx) ?_; rintro x0 w10 ⟨hN, hE10⟩; replace h1 := h1.ext hE10)
  replace hE0 := Ext.trans hE0 hE10
  refine Seg.step rfl rfl (Yd.move rfl) ?_
  (refine Seg.call rfl rfl (own_of rfl) rfl (lowerN_any ys v1 _ h1 hy) ?_; rintro x1 w12 ⟨hM, hE12⟩; replace hN := hN.ext hE12)
  replace hE10 := Ext.trans hE10 hE12
  replace h1 := h1.ext hE12
  replace hE0 := Ext.trans hE0 hE12
  (refine Seg.call rfl rfl (own_of rfl) rfl (exact_any (lowN xs) (lowN ys) x0 x1 _ hN hM (by rw [lowN_length]; omega)) ?_; rintro _ w13 ⟨rfl, hE13⟩)
  replace hE12 := Ext.trans hE12 hE13
  replace hN := hN.ext hE13
  replace hE10 := Ext.trans hE10 hE13
  replace h1 := h1.ext hE13
  replace hE0 := Ext.trans hE0 hE13
  refine Seg.step rfl rfl (Yd.assign rfl) ?_
  refine Seg.nil ?_
  refine At.then_ ?_
  refine Cd.ret ?_
  exact At.ret Try.results15 (.tmp rfl .nil) ⟨rfl, hE0⟩
end Go.Proofs.Ytidhelgoopdloaa
