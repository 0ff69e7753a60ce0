/- The reference's hosts: the walks. -/
import Derived.Test.YtahpiaaffeiadaaGreatDoorEdo
namespace Go.Proofs.YtahpiaaffeiadaaGreatDoor
open Go Go.RowKit
theorem rsize_any (n : List (List UInt8)) (v0 : Value) (w : World) (h0 : NameAt w v0 n) (hz : szN n ≤ 4611686018427387904) : Ret Tryz.prog 22 #[v0] w fun v w' => v = .int .i64 (szN n : Nat) ∧ Ext w w' := by
  have hE0 := Ext.refl w
  obtain ⟨ao, c, rfl, hl0, hr0, hz0⟩ := h0
  have hnl := szN_len n
  refine Ret.body Tryz.func22 rfl Tryz.ntmps22 rfl ?_
  refine Cd.seq ?_
  refine Cd.region ?_
  refine Seg.step rfl rfl (Yd.assign rfl) ?_
  refine Seg.nil ?_
  refine At.then_ ?_
  refine Cd.seq ?_
  refine Cd.region ?_
  refine Seg.step rfl rfl (Yd.assign rfl) ?_
  refine Seg.nil ?_
  refine At.then_ ?_
  refine Cd.seq ?_
  refine Cd.seq ?_
  refine Cd.region ?_
  refine Seg.step rfl rfl (Yd.assign rfl) ?_
  refine Seg.nil ?_
  refine At.then_ ?_
  refine Cd.block ?_
  refine Cd.loop (σ := Nat) (fun i => [(0, .slice ao n.length c), (3, .int .i64 (szN (n.take i) : Nat)), (4, .int .i64 (i : Int))])
    (fun i w' => i ≤ n.length ∧ Ext w w') (fun i => n.length - i) 0 (.cons rfl (.cons rfl (.cons rfl (.nil _)))) ⟨Nat.zero_le _, hE0⟩ ?_
  clear hE0
  rintro i w1 ⟨hi, hE0⟩
  by_cases hlt : i < n.length
  · obtain ⟨a, rfl⟩ : ∃ a, ao = some a := by
      cases ao with
      | none => have := hz0 rfl; omega
      | some a => exact ⟨a, rfl⟩
    have hr0 := hr0 a rfl
    obtain ⟨l, hl⟩ : ∃ l, n[i]? = some l := ⟨_, List.getElem?_eq_getElem hlt⟩
    have hst := szN_take hl
    have hle := szN_le n (i + 1)
    have hv : ((szN (n.take (i + 1)) : Nat) : Int) = (szN (n.take i) : Int) + (l.length : Int) + 1 := by omega
    refine Cd.seq ?_
    refine Cd.seq ?_
    refine Cd.region ?_
    refine Seg.step rfl rfl (Yd.move rfl) ?_
    refine Seg.step rfl rfl (Yd.move rfl) ?_
    refine Seg.step rfl rfl (Yd.lenS rfl rfl) ?_
    refine Seg.step rfl rfl (Yd.lss rfl rfl) ?_
    refine Seg.nil ?_
    refine At.then_ ?_
    refine Cd.condk rfl (fun h11 => ?_) (fun h11 => ?_)
    · refine Cd.skip ?_
      refine At.then_ ?_
      refine Cd.seq ?_
      refine Cd.block ?_
      refine Cd.region ?_
      refine Seg.step rfl rfl (Yd.move rfl) ?_
      refine Seg.step rfl rfl (Yd.move rfl) ?_
      refine Seg.step rfl rfl (Yd.move rfl) ?_
      refine Seg.step rfl rfl (Yd.indexAddr1 rfl rfl rfl (NatOf.cast _) (by omega)) ?_
      refine Seg.step rfl rfl (Yd.load1 rfl rfl ((hr0.ext hE0) _ _ (strV_at hl))) ?_
      refine Seg.step rfl rfl (Yd.lenStr rfl rfl) ?_
      refine Seg.step rfl rfl (Yd.addI rfl rfl (by omega)) ?_
      refine Seg.step rfl rfl (Yd.addI rfl rfl (by omega)) ?_
      refine Seg.step rfl rfl (Yd.assign rfl) ?_
      refine Seg.nil ?_
      refine At.blk ?_
      refine At.then_ ?_
      refine Cd.region ?_
      refine Seg.step rfl rfl (Yd.move rfl) ?_
      refine Seg.step rfl rfl (Yd.addI rfl rfl (by omega)) ?_
      refine Seg.step rfl rfl (Yd.assign rfl) ?_
      refine Seg.nil ?_
      exact At.round (i + 1) (by rw [hv]; exact (.cons rfl (.cons rfl (.cons rfl (.nil _))))) ⟨hlt, hE0⟩ (Nat.sub_lt_sub_left hlt (Nat.lt_succ_self i))
    · exfalso; omega
  · have hil : n.take i = n := List.take_of_length_le (by omega)
    rw [hil]
    refine Cd.seq ?_
    refine Cd.seq ?_
    refine Cd.region ?_
    refine Seg.step rfl rfl (Yd.move rfl) ?_
    refine Seg.step rfl rfl (Yd.move rfl) ?_
    refine Seg.step rfl rfl (Yd.lenS rfl rfl) ?_
    refine Seg.step rfl rfl (Yd.lss rfl rfl) ?_
    refine Seg.nil ?_
    refine At.then_ ?_
    refine Cd.condk rfl (fun h11 => ?_) (fun h11 => ?_)
    · exfalso; omega
    · refine Cd.exit ?_
      refine At.then_exit ?_
      refine At.then_exit ?_
      refine At.blk_same ?_
      refine At.then_ ?_
      refine Cd.seq ?_
      refine Cd.region ?_
      refine Seg.step rfl rfl (Yd.move rfl) ?_
      refine Seg.step rfl rfl (Yd.assign rfl) ?_
      refine Seg.nil ?_
      refine At.then_ ?_
      refine Cd.ret ?_
      exact At.ret Tryz.results22 (.tmp rfl .nil) ⟨rfl, hE0⟩
def hostN (n : List (List UInt8)) : Prop := ∀ l ∈ n, hostL l
theorem hostN_lab {n : List (List UInt8)} (h : hostN n) : labN n := fun l hl => ⟨(h l hl).1, (h l hl).2.1⟩
theorem hostN_plain {n : List (List UInt8)} (h : hostN n) : plainN n := fun l hl => (h l hl).2.2.2.2
theorem rhosts_any (n : List (List UInt8)) (v0 : Value) (w : World) (h0 : NameAt w v0 n) (hn : n ≠ []) (hh : hostN n) (hz : szN n ≤ 255) : Ret Tryz.prog 7 #[v0] w fun v w' => v = .bool true ∧ Ext w w' := by
  have hE0 := Ext.refl w
  have kS : Keep (NameAt w v0 n) := h0
  obtain ⟨ao, c, rfl, hl0, hr0, hz0⟩ := h0
  have hnl := szN_len n
  have hnp : 0 < n.length := List.length_pos_iff.2 hn
  refine Ret.body Tryz.func7 rfl Tryz.ntmps7 rfl ?_
  refine Cd.seq ?_
  refine Cd.region ?_
  refine Seg.step rfl rfl (Yd.assign rfl) ?_
  refine Seg.nil ?_
  refine At.then_ ?_
  refine Cd.seq ?_
  refine Cd.seq ?_
  refine Cd.region ?_
  refine Seg.step rfl rfl (Yd.assign rfl) ?_
  refine Seg.nil ?_
  refine At.then_ ?_
  refine Cd.block ?_
  refine Cd.loop (σ := Nat) (fun i => [(0, .slice ao n.length c), (3, .int .i64 (i : Int))])
    (fun i w' => i ≤ n.length ∧ Ext w w') (fun i => n.length - i) 0 (.cons rfl (.cons rfl (.nil _))) ⟨Nat.zero_le _, hE0⟩ ?_
  clear hE0
  rintro i w1 ⟨hi, hE0⟩
  by_cases hlt : i < n.length
  · obtain ⟨a, rfl⟩ : ∃ a, ao = some a := by
      cases ao with
      | none => have := hz0 rfl; omega
      | some a => exact ⟨a, rfl⟩
    have hr0 := hr0 a rfl
    obtain ⟨l, hl⟩ : ∃ l, n[i]? = some l := ⟨_, List.getElem?_eq_getElem hlt⟩
    have hmem := List.mem_of_getElem? hl
    have hd : decide (hostL l) = true := decide_eq_true (hh l hmem)
    have hl63 := (hh l hmem).2.1
    refine Cd.seq ?_
    refine Cd.seq ?_
    refine Cd.region ?_
    refine Seg.step rfl rfl (Yd.move rfl) ?_
    refine Seg.step rfl rfl (Yd.move rfl) ?_
    refine Seg.step rfl rfl (Yd.lenS rfl rfl) ?_
    refine Seg.step rfl rfl (Yd.lss rfl rfl) ?_
    refine Seg.nil ?_
    refine At.then_ ?_
    refine Cd.condk rfl (fun h73 => ?_) (fun h73 => ?_)
    · refine Cd.skip ?_
      refine At.then_ ?_
      refine Cd.seq ?_
      refine Cd.block ?_
      refine Cd.seq ?_
      refine Cd.region ?_
      refine Seg.step rfl rfl (Yd.move rfl) ?_
      refine Seg.step rfl rfl (Yd.move rfl) ?_
      refine Seg.step rfl rfl (Yd.indexAddr1 rfl rfl rfl (NatOf.cast _) (by omega)) ?_
      refine Seg.step rfl rfl (Yd.load1 rfl rfl ((hr0.ext hE0) _ _ (strV_at hl))) ?_
      (refine Seg.call rfl rfl (own_of rfl) rfl (rhost_any l _ (by omega)) ?_; rw [hd]; rintro _ w85 ⟨rfl, hE85⟩)
      replace hE0 := Ext.trans hE0 hE85
      refine Seg.step rfl rfl (Yd.not rfl) ?_
      refine Seg.nil ?_
      refine At.then_ ?_
      refine Cd.condF rfl ?_
      refine Cd.skip ?_
      refine At.blk ?_
      refine At.then_ ?_
      refine Cd.region ?_
      refine Seg.step rfl rfl (Yd.move rfl) ?_
      refine Seg.step rfl rfl (Yd.addI rfl rfl (by omega)) ?_
      refine Seg.step rfl rfl (Yd.assign rfl) ?_
      refine Seg.nil ?_
      exact At.round (i + 1) (.cons rfl (.cons rfl (.nil _))) ⟨hlt, hE0⟩ (Nat.sub_lt_sub_left hlt (Nat.lt_succ_self i))
    · exfalso; omega
  · refine Cd.seq ?_
    refine Cd.seq ?_
    refine Cd.region ?_
    refine Seg.step rfl rfl (Yd.move rfl) ?_
    refine Seg.step rfl rfl (Yd.move rfl) ?_
    refine Seg.step rfl rfl (Yd.lenS rfl rfl) ?_
    refine Seg.step rfl rfl (Yd.lss rfl rfl) ?_
    refine Seg.nil ?_
    refine At.then_ ?_
    refine Cd.condk rfl (fun h11 => ?_) (fun h11 => ?_)
    · exfalso; omega
    · refine Cd.exit ?_
      refine At.then_exit ?_
      refine At.then_exit ?_
      refine At.blk_same ?_
      refine At.then_ ?_
      refine Cd.seq ?_
      refine Cd.region ?_
      refine Seg.step rfl rfl (Yd.move rfl) ?_
      refine Seg.step rfl rfl (Yd.lenS rfl rfl) ?_
      refine Seg.step rfl rfl (Yd.gtr rfl rfl) ?_
      refine Seg.step rfl rfl (Yd.move rfl) ?_
      refine Seg.gsplitp rfl rfl (fun h24 => ?_) (fun h24 => ?_)
      · refine Seg.step rfl rfl (Yd.move rfl) ?_
        (refine Seg.call rfl rfl (own_of rfl) rfl (rsize_any n _ _ (Sl.ext kS hE0) (by omega)) ?_; rintro _ w27 ⟨rfl, hE27⟩)
        replace hE0 := Ext.trans hE0 hE27
        refine Seg.step rfl rfl (Yd.leq rfl rfl) ?_
        refine Seg.step rfl rfl (Yd.pickT rfl rfl) ?_
        refine Seg.step rfl rfl (Yd.assign rfl) ?_
        refine Seg.nil ?_
        refine At.then_ ?_
        refine Cd.ret ?_
        exact At.ret Tryz.results7 (.tmp rfl .nil) ⟨(bT (by omega)).symm, hE0⟩
      · exfalso; omega
end Go.Proofs.YtahpiaaffeiadaaGreatDoor
