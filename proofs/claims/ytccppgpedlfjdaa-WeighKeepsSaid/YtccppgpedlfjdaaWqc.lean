/- The reference's place that a number falls on: the walk. -/
import Derived.Test.YtccppgpedlfjdaaWqb
namespace Go.Proofs.Ytccppgpedlfjdaa
open Go Go.RowKit
theorem rheld_any (i : Int) (w : World) : Ret Try.prog 29 #[.int .i64 i] w fun v w' => v = .int .i64 (heldI i) ∧ Ext w w' := by
  have hE0 := Ext.refl w
  refine Ret.body Try.func29 rfl Try.ntmps29 rfl ?_
  have he : (if (2147483648 : Int) < (if i < (0 : Int) then 0 else i) then 2147483648 else (if i < (0 : Int) then 0 else i)) = heldI i := by
    unfold heldI
    split <;> split <;> omega
  refine Cd.seq ?_
  refine Cd.region ?_
  refine Seg.step rfl rfl (Yd.assign rfl) ?_
  refine Seg.nil ?_
  refine At.then_ ?_
  refine Cd.seq ?_
  refine Cd.region ?_
  refine Seg.step rfl rfl (Yd.move rfl) ?_
  (refine Seg.step rfl rfl (Yd.max2N rfl rfl) ?_)
  refine Seg.step rfl rfl (Yd.min2 rfl rfl) ?_
  refine Seg.step rfl rfl (Yd.assign rfl) ?_
  refine Seg.nil ?_
  refine At.then_ ?_
  refine Cd.ret ?_
  exact At.ret Try.results29 (.tmp rfl .nil) ⟨congrArg (Value.int .i64) he, hE0⟩
def hsum (W : List Int) (k : Nat) : Int := pre (W.map heldI) k
theorem hsum_step {W : List Int} {k : Nat} (h : k < W.length) : hsum W (k + 1) = hsum W k + heldI (W.getD k 0) := by
  unfold hsum
  rw [pre_step (by rw [List.length_map]; exact h)]
  congr 1
  simp [List.getD, h]
theorem hsum_bd (W : List Int) (hl : W.length ≤ 200) (k : Nat) : 0 ≤ hsum W k ∧ hsum W k ≤ 1099511627776 := by
  have h := pre_bd (A := W.map heldI) (M := 2147483648) (fun a ha => by
    obtain ⟨x, _, rfl⟩ := List.mem_map.1 ha
    exact heldI_bd x) k
  rw [List.length_map] at h
  have h2 : (W.length : Int) * 2147483648 ≤ 200 * 2147483648 := Int.mul_le_mul_of_nonneg_right (by omega) (by omega)
  unfold hsum
  omega
theorem rpick_any (W : List Int) (v0 : Value) (r : Int) (w : World) (h0 : Sl w 1 v0 W.length (ints W)) (hx : W.length ≤ 200) : Ret Try.prog 17 #[v0, .int .i64 r] w fun v w' => v = .int .i64 (wpick W r) ∧ Ext w w' := by
  have hE0 := Ext.refl w
  obtain ⟨ao, c, rfl, hl0, hr0, hz0⟩ := id h0
  refine Ret.body Try.func17 rfl Try.ntmps17 rfl ?_
  refine Cd.seq ?_
  refine Cd.region ?_
  refine Seg.step rfl rfl (Yd.assign rfl) ?_
  refine Seg.nil ?_
  refine At.then_ ?_
  refine Cd.seq ?_
  refine Cd.seq ?_
  refine Cd.region ?_
  refine Seg.step rfl rfl (Yd.assign rfl) ?_
  refine Seg.nil ?_
  refine At.then_ ?_
  refine Cd.block ?_
  refine Cd.loop (σ := Nat) (fun i => [(0, .slice ao W.length c), (1, .int .i64 r), (5, .int .i64 (i : Int))])
    (fun i w' => (i ≤ W.length ∧ wpickF W r i (hsum W i) (W.drop i) = wpick W r) ∧ Ext w w') (fun i => W.length - i) 0 (.cons rfl (.cons rfl (.cons rfl (.nil _)))) ⟨⟨Nat.zero_le _, by rw [List.drop_zero]; rfl⟩, hE0⟩ ?_
  clear hE0
  rintro i w0 ⟨⟨hi, hp⟩, hE0⟩
  by_cases hlt : i < W.length
  · obtain ⟨a, rfl⟩ : ∃ a, ao = some a := by
      cases ao with
      | none => have := hz0 rfl; omega
      | some a => exact ⟨a, rfl⟩
    have hdr : W.drop i = W.getD i 0 :: W.drop (i + 1) := by
      rw [List.drop_eq_getElem_cons hlt]; simp [List.getD, hlt]
    rw [hdr, wpickF, ← hsum_step hlt] at hp
    refine Cd.seq ?_
    refine Cd.seq ?_
    refine Cd.region ?_
    refine Seg.step rfl rfl (Yd.move rfl) ?_
    refine Seg.step rfl rfl (Yd.move rfl) ?_
    refine Seg.step rfl rfl (Yd.lenS rfl rfl) ?_
    refine Seg.step rfl rfl (Yd.lss rfl rfl) ?_
    refine Seg.nil ?_
    refine At.then_ ?_
    refine Cd.condk rfl (fun h10 => ?_) (fun h10 => ?_)
    rotate_left 1
    · exfalso; omega
    rotate_right 1
    refine Cd.skip ?_
    refine At.then_ ?_
    refine Cd.seq ?_
    refine Cd.block ?_
    refine Cd.seq ?_
    refine Cd.region ?_
    refine Seg.step rfl rfl (Yd.assign rfl) ?_
    refine Seg.nil ?_
    refine At.then_ ?_
    refine Cd.seq ?_
    refine Cd.seq ?_
    refine Cd.region ?_
    refine Seg.step rfl rfl (Yd.assign rfl) ?_
    refine Seg.nil ?_
    refine At.then_ ?_
    refine Cd.block ?_
    refine Cd.loop (σ := Nat) (fun k => [(0, .slice (some a) W.length c), (1, .int .i64 r), (5, .int .i64 (i : Int)), (6, .int .i64 (hsum W k)), (7, .int .i64 (k : Int))])
      (fun k w' => k ≤ i + 1 ∧ Ext w w') (fun k => i + 1 - k) 0 (.cons rfl (.cons rfl (.cons rfl (.cons rfl (.cons rfl (.nil _)))))) ⟨Nat.zero_le _, by assumption⟩ ?_
    clear hE0
    rintro k w1 ⟨hk, hE0⟩
    have hrow := (hr0 a rfl).ext hE0
    have hb0 := hsum_bd W hx k
    by_cases hki : k < i + 1
    · have hst := hsum_step (W := W) (k := k) (by omega)
      have hb := heldI_bd (W.getD k 0)
      have hki' : (k : Int) ≤ i := by omega
      refine Cd.seq ?_
      refine Cd.seq ?_
      refine Cd.region ?_
      refine Seg.step rfl rfl (Yd.move rfl) ?_
      refine Seg.step rfl rfl (Yd.move rfl) ?_
      refine Seg.step rfl rfl (Yd.leq rfl rfl) ?_
      refine Seg.nil ?_
      refine At.then_ ?_
      refine Cd.condk rfl (fun h19 => ?_) (fun h19 => ?_)
      · refine Cd.skip ?_
        refine At.then_ ?_
        refine Cd.seq ?_
        refine Cd.block ?_
        refine Cd.region ?_
        refine Seg.step rfl rfl (Yd.move rfl) ?_
        refine Seg.step rfl rfl (Yd.move rfl) ?_
        refine Seg.step rfl rfl (Yd.move rfl) ?_
        refine Seg.step rfl rfl (Yd.indexAddr1 rfl rfl rfl (NatOf.cast _) (by omega)) ?_
        refine Seg.step rfl rfl (Yd.load1 rfl rfl (hrow _ _ (ints_get (by omega)))) ?_
        (refine Seg.call rfl rfl (own_of rfl) rfl (rheld_any _ _) ?_; rintro _ w31 ⟨rfl, hE31⟩)
        replace hE0 := Ext.trans hE0 hE31
        replace hrow := hrow.ext hE31
        refine Seg.step rfl rfl (Yd.addI rfl rfl (by omega)) ?_
        refine Seg.step rfl rfl (Yd.assign rfl) ?_
        refine Seg.nil ?_
        refine At.blk ?_
        refine At.then_ ?_
        refine Cd.region ?_
        refine Seg.step rfl rfl (Yd.move rfl) ?_
        refine Seg.step rfl rfl (Yd.addI rfl rfl (by omega)) ?_
        refine Seg.step rfl rfl (Yd.assign rfl) ?_
        refine Seg.nil ?_
        exact At.round (k + 1) (.cons rfl (.cons rfl (.cons rfl (.cons (congrArg (fun z => some (Value.int .i64 z)) hst.symm) (.cons rfl (.nil _)))))) ⟨hki, by assumption⟩ (by omega)
      · exfalso; omega
    · have hke : k = i + 1 := by omega
      subst hke
      have hki' : ¬ (((i + 1 : Nat) : Int) ≤ i) := by omega
      by_cases hc : r ≤ hsum W (i + 1)
      · rw [if_pos hc] at hp
        refine Cd.seq ?_
        refine Cd.seq ?_
        refine Cd.region ?_
        refine Seg.step rfl rfl (Yd.move rfl) ?_
        refine Seg.step rfl rfl (Yd.move rfl) ?_
        refine Seg.step rfl rfl (Yd.leq rfl rfl) ?_
        refine Seg.nil ?_
        refine At.then_ ?_
        refine Cd.condk rfl (fun h19 => ?_) (fun h19 => ?_)
        · exfalso; omega
        · refine Cd.exit ?_
          refine At.then_exit ?_
          refine At.then_exit ?_
          refine At.blk_same ?_
          refine At.then_ ?_
          refine Cd.seq ?_
          refine Cd.region ?_
          refine Seg.step rfl rfl (Yd.move rfl) ?_
          refine Seg.step rfl rfl (Yd.move rfl) ?_
          refine Seg.step rfl rfl (Yd.geq rfl rfl) ?_
          refine Seg.nil ?_
          refine At.then_ ?_
          refine Cd.condk rfl (fun h33 => ?_) (fun h33 => ?_)
          · refine Cd.seq ?_
            refine Cd.region ?_
            refine Seg.step rfl rfl (Yd.move rfl) ?_
            refine Seg.step rfl rfl (Yd.assign rfl) ?_
            refine Seg.nil ?_
            refine At.then_ ?_
            refine Cd.ret ?_
            refine At.blk_ret ?_
            refine At.then_ret ?_
            refine At.then_ret ?_
            refine At.blk_ret ?_
            refine At.then_ret ?_
            exact At.ret Try.results17 (.tmp rfl .nil) ⟨congrArg (Value.int .i64) hp, by assumption⟩
          · exfalso; omega
      · rw [if_neg hc] at hp
        refine Cd.seq ?_
        refine Cd.seq ?_
        refine Cd.region ?_
        refine Seg.step rfl rfl (Yd.move rfl) ?_
        refine Seg.step rfl rfl (Yd.move rfl) ?_
        refine Seg.step rfl rfl (Yd.leq rfl rfl) ?_
        refine Seg.nil ?_
        refine At.then_ ?_
        refine Cd.condk rfl (fun h19 => ?_) (fun h19 => ?_)
        · exfalso; omega
        · refine Cd.exit ?_
          refine At.then_exit ?_
          refine At.then_exit ?_
          refine At.blk_same ?_
          refine At.then_ ?_
          refine Cd.seq ?_
          refine Cd.region ?_
          refine Seg.step rfl rfl (Yd.move rfl) ?_
          refine Seg.step rfl rfl (Yd.move rfl) ?_
          refine Seg.step rfl rfl (Yd.geq rfl rfl) ?_
          refine Seg.nil ?_
          refine At.then_ ?_
          refine Cd.condk rfl (fun h33 => ?_) (fun h33 => ?_)
          · exfalso; omega
          · refine Cd.skip ?_
            refine At.blk ?_
            refine At.then_ ?_
            refine Cd.region ?_
            refine Seg.step rfl rfl (Yd.move rfl) ?_
            refine Seg.step rfl rfl (Yd.addI rfl rfl (by omega)) ?_
            refine Seg.step rfl rfl (Yd.assign rfl) ?_
            refine Seg.nil ?_
            exact At.round (i + 1) (.cons rfl (.cons rfl (.cons rfl (.nil _)))) ⟨⟨hlt, hp⟩, by assumption⟩ (Nat.sub_lt_sub_left hlt (Nat.lt_succ_self i))
  · have hie : i = W.length := by omega
    rw [hie, List.drop_length, wpickF] at hp
    refine Cd.seq ?_
    refine Cd.seq ?_
    refine Cd.region ?_
    refine Seg.step rfl rfl (Yd.move rfl) ?_
    refine Seg.step rfl rfl (Yd.move rfl) ?_
    refine Seg.step rfl rfl (Yd.lenS rfl rfl) ?_
    refine Seg.step rfl rfl (Yd.lss rfl rfl) ?_
    refine Seg.nil ?_
    refine At.then_ ?_
    refine Cd.condk rfl (fun h10 => ?_) (fun h10 => ?_)
    · exfalso; omega
    · refine Cd.exit ?_
      refine At.then_exit ?_
      refine At.then_exit ?_
      refine At.blk_same ?_
      refine At.then_ ?_
      refine Cd.seq ?_
      refine Cd.region ?_
      refine Seg.step rfl rfl (Yd.move rfl) ?_
      refine Seg.step rfl rfl (Yd.lenS rfl rfl) ?_
      refine Seg.step rfl rfl (Yd.subI rfl rfl (by omega)) ?_
      refine Seg.step rfl rfl (Yd.assign rfl) ?_
      refine Seg.nil ?_
      refine At.then_ ?_
      refine Cd.ret ?_
      exact At.ret Try.results17 (.tmp rfl .nil) ⟨congrArg (Value.int .i64) hp, by assumption⟩
end Go.Proofs.Ytccppgpedlfjdaa
