/- A list of targets without one of them; which place a number falls on; a lot's order: the walks. -/
import Derived.Test.YtccppgpedlfjdaaOrd
namespace Go.Proofs.Ytccppgpedlfjdaa
open Go Go.RowKit
def wpickF (W : List Int) (r : Int) : Nat → Int → List Int → Int
  | _, _, [] => (W.length : Int) - 1
  | i, sum, x :: l => if r ≤ sum + heldI x then (i : Int) else wpickF W r (i + 1) (sum + heldI x) l
/-- The place that a number falls on. -/
def wpick (W : List Int) (r : Int) : Int := wpickF W r 0 0 W
theorem without_any (xs : List El) (v0 : Value) (at' : Nat) (w : World) (h0 : Sl w 33 v0 xs.length (xs.flatMap cel)) (hc : ∀ a m c, v0 = .slice a m c → m ≤ c) (hx : xs.length ≤ 1000) (ha : at' < xs.length) : Ret Try.prog 18 #[v0, .int .i64 (at' : Int)] w fun v w' => w'.ownsRow w.heap.size 44 33 v (xs.take at' ++ xs.drop (at' + 1)).length ((xs.take at' ++ xs.drop (at' + 1)).flatMap cel) ∧ Ext w w' := by
  have hE0 := Ext.refl w
  obtain ⟨ao, c, rfl, hl0, hr0, hz0⟩ := id h0
  have hcc := hc _ _ _ rfl
  have h1 := Sl.cut h0 (Nat.zero_le at') (Nat.le_of_lt ha) hcc
  rw [Nat.zero_mul, List.drop_zero, Nat.sub_zero, flat_takeE] at h1
  have h2 := Sl.cut h0 (lo := at' + 1) (hi := xs.length) ha (Nat.le_refl _) hcc
  rw [flat_dropE, List.take_of_length_le (by rw [flat_len celK, List.length_drop]; omega)] at h2
  have hl1 : (xs.take at').length = at' := by rw [List.length_take]; omega
  have hl2 : (xs.drop (at' + 1)).length = xs.length - (at' + 1) := List.length_drop
  rw [← hl2] at h2
  have hlen : (xs.take at' ++ xs.drop (at' + 1)).length = at' + (xs.drop (at' + 1)).length := by rw [List.length_append, hl1]
  refine Ret.body Try.func18 rfl Try.ntmps18 rfl ?_
  refine Cd.seq ?_
  refine Cd.region ?_
  refine Seg.step rfl rfl (Yd.assign rfl) ?_
  refine Seg.nil ?_
  refine At.then_ ?_
  refine Cd.seq ?_
  refine Cd.region ?_
  refine Seg.step rfl rfl (Yd.assign rfl) ?_
  refine Seg.nil ?_
  refine At.then_ ?_
  refine Cd.seq ?_
  refine Cd.region ?_
  refine Seg.step rfl rfl (Yd.move rfl) ?_
  refine Seg.step rfl rfl (Yd.move rfl) ?_
  refine Seg.step rfl rfl (Yd.move rfl) ?_
  (refine Seg.step rfl rfl (Yd.slSlH rfl rfl rfl (NatOf.cast at') (by omega)) ?_)
  have hfin : ∀ (w' : World) (v : Value), w'.ownsRow w.heap.size 44 (32 + 1) v (at' + (xs.drop (at' + 1)).length) ((xs.take at').flatMap cel ++ (xs.drop (at' + 1)).flatMap cel) → w'.ownsRow w.heap.size 44 33 v (xs.take at' ++ xs.drop (at' + 1)).length ((xs.take at' ++ xs.drop (at' + 1)).flatMap cel) := fun w' v h => by
    rw [hlen, List.flatMap_append]; exact h
  refine Seg.appendNil (news := (xs.take at').flatMap cel) (m' := at') rfl rfl rfl rfl rfl rfl rfl rfl rfl h1 (cels_one _) (by omega) rfl (fun v1 w1 hO1 hE1 => ?_)
  have h2' := Sl.ext h2 hE1
  have kO1 : Keep (w1.ownsRow w.heap.size 44 (32 + 1) v1 at' ((xs.take at').flatMap cel)) := hO1
  have kh2 : Keep (Sl w1 33 (sliced ao (at' + 1) xs.length c 33) (xs.drop (at' + 1)).length ((xs.drop (at' + 1)).flatMap cel)) := h2'
  have kE1 : Keep (Ext w w1) := hE1
  clear hO1 h2'
  refine Seg.step rfl rfl (Yd.assign rfl) ?_
  refine Seg.nil ?_
  refine At.then_ ?_
  refine Cd.seq ?_
  refine Cd.region ?_
  refine Seg.step rfl rfl (Yd.move rfl) ?_
  refine Seg.step rfl rfl (Yd.move rfl) ?_
  refine Seg.step rfl rfl (Yd.move rfl) ?_
  refine Seg.step rfl rfl (Yd.addI rfl rfl (by omega)) ?_
  (refine Seg.step rfl rfl (Yd.slSlL rfl rfl rfl (NatOf.add (NatOf.cast at') (NatOf.cast 1)) (by omega)) ?_)
  refine Seg.append (news := (xs.drop (at' + 1)).flatMap cel) (m' := (xs.drop (at' + 1)).length) rfl rfl rfl rfl rfl rfl rfl rfl rfl kO1 kh2 (cels_one _) (Below.size kE1) (by omega) rfl (fun v2 w2 hN hG _ => ?_)
  have hf2 := hfin _ _ hN
  have hE2 := Ext.own kE1 kO1 (Nat.le_refl _) hG
  refine Seg.step rfl rfl (Yd.assign rfl) ?_
  refine Seg.nil ?_
  refine At.then_ ?_
  refine Cd.ret ?_
  exact At.ret Try.results18 (.tmp rfl .nil) ⟨hf2, hE2⟩
theorem wpick_any (W : List Int) (v0 : Value) (r : Int) (w : World) (h0 : Sl w 1 v0 W.length (ints W)) (hx : W.length ≤ 200) : Ret Try.prog 20 #[v0, .int .i64 r] w fun v w' => v = .int .i64 (wpick W r) ∧ Ext w w' := by
  have hE0 := Ext.refl w
  obtain ⟨ao, c, rfl, hl0, hr0, hz0⟩ := id h0
  refine Ret.body Try.func20 rfl Try.ntmps20 rfl ?_
  refine Cd.seq ?_
  refine Cd.region ?_
  refine Seg.step rfl rfl (Yd.assign rfl) ?_
  refine Seg.nil ?_
  refine At.then_ ?_
  refine Cd.seq ?_
  refine Cd.region ?_
  refine Seg.step rfl rfl (Yd.assign rfl) ?_
  refine Seg.nil ?_
  refine At.then_ ?_
  refine Cd.seq ?_
  refine Cd.seq ?_
  refine Cd.region ?_
  refine Seg.step rfl rfl (Yd.move rfl) ?_
  refine Seg.step rfl rfl (Yd.lenS rfl rfl) ?_
  refine Seg.step rfl rfl (Yd.move rfl) ?_
  refine Seg.nil ?_
  refine At.then_ ?_
  refine Cd.block ?_
  refine Cd.loop (σ := Nat × Int) (fun t => [(0, .slice ao W.length c), (1, .int .i64 r), (5, .int .i64 t.2), (8, .slice ao W.length c), (9, .int .i64 (W.length : Int)), (10, .int .i64 (t.1 : Int))])
    (fun t w' => (t.1 ≤ W.length ∧ 0 ≤ t.2 ∧ t.2 ≤ t.1 * 2147483648 ∧ wpickF W r t.1 t.2 (W.drop t.1) = wpick W r) ∧ Ext w w') (fun t => W.length - t.1) (0, 0) (.cons rfl (.cons rfl (.cons rfl (.cons rfl (.cons rfl (.cons rfl (.nil _))))))) ⟨⟨Nat.zero_le _, Int.le_refl _, by simp, by rw [List.drop_zero]; rfl⟩, hE0⟩ ?_
  clear hE0
  rintro ⟨i, sm⟩ w0 ⟨⟨hi, hs0, hs1, hp⟩, hE0⟩
  simp only at hi hs0 hs1 hp ⊢
  by_cases hlt : i < W.length
  · obtain ⟨a, rfl⟩ : ∃ a, ao = some a := by
      cases ao with
      | none => have := hz0 rfl; omega
      | some a => exact ⟨a, rfl⟩
    have hrow := (hr0 a rfl).ext hE0
    have hdr : W.drop i = W.getD i 0 :: W.drop (i + 1) := by
      rw [List.drop_eq_getElem_cons hlt]; simp [List.getD, hlt]
    rw [hdr, wpickF] at hp
    have hb := heldI_bd (W.getD i 0)
    by_cases hc : r ≤ sm + heldI (W.getD i 0)
    · rw [if_pos hc] at hp
      refine Cd.seq ?_
      refine Cd.region ?_
      refine Seg.step rfl rfl (Yd.lss rfl rfl) ?_
      refine Seg.nil ?_
      refine At.then_ ?_
      refine Cd.seq ?_
      refine Cd.condk rfl (fun h8 => ?_) (fun h8 => ?_)
      · refine Cd.skip ?_
        refine At.then_ ?_
        refine Cd.seq ?_
        refine Cd.block ?_
        refine Cd.seq ?_
        refine Cd.region ?_
        refine Seg.step rfl rfl (Yd.move rfl) ?_
        refine Seg.step rfl rfl (Yd.indexAddr1 rfl rfl rfl (NatOf.cast _) (by omega)) ?_
        refine Seg.step rfl rfl (Yd.load1 rfl rfl (hrow _ _ (ints_get hlt))) ?_
        refine Seg.step rfl rfl (Yd.assign rfl) ?_
        refine Seg.step rfl rfl (Yd.assign rfl) ?_
        refine Seg.nil ?_
        refine At.then_ ?_
        refine Cd.seq ?_
        refine Cd.region ?_
        refine Seg.step rfl rfl (Yd.move rfl) ?_
        refine Seg.step rfl rfl (Yd.move rfl) ?_
        (refine Seg.call rfl rfl (own_of rfl) rfl (held_any _ _) ?_; rintro _ w27 ⟨rfl, hE27⟩)
        replace hE0 := Ext.trans hE0 hE27
        replace hrow := hrow.ext hE27
        refine Seg.step rfl rfl (Yd.addI rfl rfl (by omega)) ?_
        refine Seg.step rfl rfl (Yd.assign rfl) ?_
        refine Seg.nil ?_
        refine At.then_ ?_
        refine Cd.seq ?_
        refine Cd.region ?_
        refine Seg.step rfl rfl (Yd.move rfl) ?_
        refine Seg.step rfl rfl (Yd.move rfl) ?_
        refine Seg.step rfl rfl (Yd.geq rfl rfl) ?_
        refine Seg.nil ?_
        refine At.then_ ?_
        refine Cd.condk rfl (fun h39 => ?_) (fun h39 => ?_)
        · refine Cd.seq ?_
          refine Cd.region ?_
          refine Seg.step rfl rfl (Yd.move rfl) ?_
          refine Seg.step rfl rfl (Yd.assign rfl) ?_
          refine Seg.nil ?_
          refine At.then_ ?_
          refine Cd.ret ?_
          refine At.blk_ret ?_
          refine At.then_ret ?_
          refine At.then_ret ?_
          refine At.blk_ret ?_
          refine At.then_ret ?_
          exact At.ret Try.results20 (.tmp rfl .nil) ⟨congrArg (Value.int .i64) hp, by assumption⟩
        · exfalso; omega
      · exfalso; omega
    · rw [if_neg hc] at hp
      have hs2 : sm + heldI (W.getD i 0) ≤ ((i + 1 : Nat) : Int) * 2147483648 := by omega
      refine Cd.seq ?_
      refine Cd.region ?_
      refine Seg.step rfl rfl (Yd.lss rfl rfl) ?_
      refine Seg.nil ?_
      refine At.then_ ?_
      refine Cd.seq ?_
      refine Cd.condk rfl (fun h9 => ?_) (fun h9 => ?_)
      · refine Cd.skip ?_
        refine At.then_ ?_
        refine Cd.seq ?_
        refine Cd.block ?_
        refine Cd.seq ?_
        refine Cd.region ?_
        refine Seg.step rfl rfl (Yd.move rfl) ?_
        refine Seg.step rfl rfl (Yd.indexAddr1 rfl rfl rfl (NatOf.cast _) (by omega)) ?_
        refine Seg.step rfl rfl (Yd.load1 rfl rfl (hrow _ _ (ints_get hlt))) ?_
        refine Seg.step rfl rfl (Yd.assign rfl) ?_
        refine Seg.step rfl rfl (Yd.assign rfl) ?_
        refine Seg.nil ?_
        refine At.then_ ?_
        refine Cd.seq ?_
        refine Cd.region ?_
        refine Seg.step rfl rfl (Yd.move rfl) ?_
        refine Seg.step rfl rfl (Yd.move rfl) ?_
        (refine Seg.call rfl rfl (own_of rfl) rfl (held_any _ _) ?_; rintro _ w28 ⟨rfl, hE28⟩)
        replace hE0 := Ext.trans hE0 hE28
        replace hrow := hrow.ext hE28
        refine Seg.step rfl rfl (Yd.addI rfl rfl (by omega)) ?_
        refine Seg.step rfl rfl (Yd.assign rfl) ?_
        refine Seg.nil ?_
        refine At.then_ ?_
        refine Cd.seq ?_
        refine Cd.region ?_
        refine Seg.step rfl rfl (Yd.move rfl) ?_
        refine Seg.step rfl rfl (Yd.move rfl) ?_
        refine Seg.step rfl rfl (Yd.geq rfl rfl) ?_
        refine Seg.nil ?_
        refine At.then_ ?_
        refine Cd.condk rfl (fun h40 => ?_) (fun h40 => ?_)
        · exfalso; omega
        · refine Cd.skip ?_
          refine At.blk ?_
          refine At.then_ ?_
          refine Cd.region ?_
          refine Seg.step rfl rfl (Yd.addI rfl rfl (by omega)) ?_
          refine Seg.step rfl rfl (Yd.move rfl) ?_
          refine Seg.nil ?_
          exact At.round (i + 1, sm + heldI (W.getD i 0)) (.cons rfl (.cons rfl (.cons rfl (.cons rfl (.cons rfl (.cons rfl (.nil _))))))) ⟨⟨hlt, by omega, hs2, hp⟩, by assumption⟩ (Nat.sub_lt_sub_left hlt (Nat.lt_succ_self i))
      · exfalso; omega
  · have hie : i = W.length := by omega
    rw [hie, List.drop_length, wpickF] at hp
    refine Cd.seq ?_
    refine Cd.region ?_
    refine Seg.step rfl rfl (Yd.lss rfl rfl) ?_
    refine Seg.nil ?_
    refine At.then_ ?_
    refine Cd.seq ?_
    refine Cd.condk rfl (fun h8 => ?_) (fun h8 => ?_)
    · exfalso; omega
    · refine Cd.exit ?_
      refine At.then_exit ?_
      refine At.then_exit ?_
      refine At.blk_same ?_
      refine At.then_ ?_
      refine Cd.seq ?_
      refine Cd.region ?_
      refine Seg.step rfl rfl (Yd.move rfl) ?_
      refine Seg.step rfl rfl (Yd.lenS rfl rfl) ?_
      refine Seg.step rfl rfl (Yd.subI rfl rfl (by omega)) ?_
      refine Seg.step rfl rfl (Yd.assign rfl) ?_
      refine Seg.nil ?_
      refine At.then_ ?_
      refine Cd.ret ?_
      exact At.ret Try.results20 (.tmp rfl .nil) ⟨congrArg (Value.int .i64) hp, by assumption⟩
end Go.Proofs.Ytccppgpedlfjdaa
