/- Services found by name, and by port. -/
import Derived.Test.YtbmgigbedmgfpaaPrs
namespace Go.Proofs.Ytbmgigbedmgfpaa
open Go Go.RowKit
/-- Is the service of the protocol? Of 0 each one is. -/
def ofPr (pr : Int) (s : Svc) : Prop := pr = 0 ∨ s.proto = pr
instance (pr : Int) (s : Svc) : Decidable (ofPr pr s) := by unfold ofPr; infer_instance
def findB (n : List UInt8) (pr : Int) : List Svc → Int × Bool
  | [] => (0, false)
  | s :: l => if n ∈ s.names ∧ ofPr pr s then (s.port, true) else findB n pr l
def nameB (po pr : Int) : List Svc → List UInt8 × Bool
  | [] => ([], false)
  | s :: l => if s.names ≠ [] ∧ s.port = po ∧ ofPr pr s then (s.names.headD [], true) else nameB po pr l
theorem is_any (v : Value) (s : Svc) (pr : Int) (w : World) : Ret Try.prog 26 #[.agg #[v, .int .i64 s.port, .int .i64 s.proto], .int .i64 pr] w fun r w' => r = .bool (decide (ofPr pr s)) ∧ Ext w w' := by
  have hE0 := Ext.refl w
  refine Ret.body Try.func26 rfl Try.ntmps26 rfl ?_
  by_cases h0 : pr = 0
  · have hR : Value.bool true = .bool (decide (ofPr pr s)) := bT (.inl h0)
    refine Cd.seq ?_
    refine Cd.region ?_
    refine Seg.box rfl rfl rfl (fun w3 b3 hE3 hB3 hb3 => ?_)
    have hlt3_0 := Nat.le_trans hE0.size hb3
    replace hE0 := Ext.trans hE0 hE3
    refine Seg.step rfl rfl (Yd.assign rfl) ?_
    refine Seg.nil ?_
    refine At.then_ ?_
    refine Cd.seq ?_
    refine Cd.region ?_
    refine Seg.step rfl rfl (Yd.move rfl) ?_
    refine Seg.step rfl rfl (Yd.eql rfl rfl) ?_
    refine Seg.step rfl rfl (Yd.move rfl) ?_
    refine Seg.gsplitp rfl rfl (fun h12 => ?_) (fun h12 => ?_)
    · refine Seg.skip rfl rfl ?_
      refine Seg.skip rfl rfl ?_
      refine Seg.skip rfl rfl ?_
      refine Seg.skip rfl rfl ?_
      refine Seg.step rfl rfl (Yd.pickT rfl rfl) ?_
      refine Seg.step rfl rfl (Yd.assign rfl) ?_
      refine Seg.nil ?_
      refine At.then_ ?_
      refine Cd.ret ?_
      exact At.ret Try.results26 (.tmp rfl .nil) ⟨hR, by assumption⟩
    · exfalso; omega
  · have hR : Value.bool (decide (s.proto = pr)) = .bool (decide (ofPr pr s)) := by
      congr 1
      rw [decide_eq_decide]
      exact ⟨.inr, fun h => h.elim (fun h => absurd h h0) id⟩
    refine Cd.seq ?_
    refine Cd.region ?_
    refine Seg.box rfl rfl rfl (fun w3 b3 hE3 hB3 hb3 => ?_)
    have hlt3_0 := Nat.le_trans hE0.size hb3
    replace hE0 := Ext.trans hE0 hE3
    refine Seg.step rfl rfl (Yd.assign rfl) ?_
    refine Seg.nil ?_
    refine At.then_ ?_
    refine Cd.seq ?_
    refine Cd.region ?_
    refine Seg.step rfl rfl (Yd.move rfl) ?_
    refine Seg.step rfl rfl (Yd.eql rfl rfl) ?_
    refine Seg.step rfl rfl (Yd.move rfl) ?_
    refine Seg.gsplitp rfl rfl (fun h12 => ?_) (fun h12 => ?_)
    · exfalso; omega
    · refine Seg.step rfl rfl (Yd.fieldAddr rfl rfl) ?_
      refine Seg.step rfl rfl (Yd.load1 rfl rfl (hB3.row _ _ rfl)) ?_
      refine Seg.step rfl rfl (Yd.move rfl) ?_
      refine Seg.step rfl rfl (Yd.eql rfl rfl) ?_
      refine Seg.step rfl rfl (Yd.pickF rfl rfl) ?_
      refine Seg.step rfl rfl (Yd.assign rfl) ?_
      refine Seg.nil ?_
      refine At.then_ ?_
      refine Cd.ret ?_
      exact At.ret Try.results26 (.tmp rfl .nil) ⟨hR, by assumption⟩
theorem has_any (xs : List (List UInt8)) (x : List UInt8) (v : Value) (w : World) (h : NameAt w v xs) (hl : xs.length ≤ 1000000) : Ret Try.prog 28 #[v, .string ⟨x.toArray⟩] w fun r w' => r = .bool (decide (x ∈ xs)) ∧ Ext w w' := by
  have hE0 := Ext.refl w
  obtain ⟨ao, c, rfl, hl0, hr0, hz0⟩ := h
  refine Ret.body Try.func28 rfl Try.ntmps28 rfl ?_
  refine Cd.seq ?_
  refine Cd.region ?_
  refine Seg.step rfl rfl (Yd.assign rfl) ?_
  refine Seg.nil ?_
  refine At.then_ ?_
  refine Cd.seq ?_
  refine Cd.seq ?_
  refine Cd.region ?_
  refine Seg.step rfl rfl (Yd.assign rfl) ?_
  refine Seg.nil ?_
  refine At.then_ ?_
  refine Cd.block ?_
  refine Cd.loop (σ := Nat) (fun s => [(0, .slice ao xs.length c), (1, .string ⟨x.toArray⟩), (4, .bool false), (5, .int .i64 (s : Int))])
    (fun s w' => s ≤ xs.length ∧ x ∉ xs.take s ∧ Ext w w') (fun s => xs.length - s) 0 (.cons rfl (.cons rfl (.cons rfl (.cons rfl (.nil _))))) ⟨Nat.zero_le _, by simp, hE0⟩ ?_
  clear hE0
  rintro i w0 ⟨hi, hT, hE0⟩
  by_cases hlt : i < xs.length
  · obtain ⟨a, rfl⟩ : ∃ a, ao = some a := by
      cases ao with
      | none => have := hz0 rfl; omega
      | some a => exact ⟨a, rfl⟩
    have hr0 := hr0 a rfl
    obtain ⟨y, hy⟩ : ∃ y, xs[i]? = some y := ⟨_, List.getElem?_eq_getElem hlt⟩
    have hyv : (strV xs)[i]? = some (.string ⟨y.toArray⟩) := by simp [strV, hy]
    have hym := List.mem_of_getElem? hy
    have hT' : ¬ y = x → x ∉ xs.take (i + 1) := fun h hx => by
      rw [List.take_add_one, hy] at hx
      rcases List.mem_append.1 hx with hx | hx
      · exact hT hx
      · exact h (List.mem_singleton.1 hx).symm
    have hT'' : ¬ x = y → x ∉ xs.take (i + 1) := fun h => hT' (fun e => h e.symm)
    refine Cd.seq ?_
    refine Cd.seq ?_
    refine Cd.region ?_
    refine Seg.step rfl rfl (Yd.move rfl) ?_
    refine Seg.step rfl rfl (Yd.move rfl) ?_
    refine Seg.step rfl rfl (Yd.lenS rfl rfl) ?_
    refine Seg.step rfl rfl (Yd.lss rfl rfl) ?_
    refine Seg.nil ?_
    refine At.then_ ?_
    refine Cd.condk rfl (fun h10 => ?_) (fun h10 => ?_)
    · refine Cd.skip ?_
      refine At.then_ ?_
      refine Cd.seq ?_
      refine Cd.block ?_
      refine Cd.seq ?_
      refine Cd.region ?_
      refine Seg.step rfl rfl (Yd.move rfl) ?_
      refine Seg.step rfl rfl (Yd.move rfl) ?_
      refine Seg.step rfl rfl (Yd.indexAddr1 rfl rfl rfl (NatOf.cast _) (by omega)) ?_
      refine Seg.step rfl rfl (Yd.load1 rfl rfl ((hr0.ext hE0) _ _ hyv)) ?_
      refine Seg.step rfl rfl (Yd.move rfl) ?_
      refine Seg.step rfl rfl (Yd.eqlS rfl rfl) ?_
      refine Seg.nil ?_
      refine At.then_ ?_
      refine Cd.condk rfl (fun h26 => ?_) (fun h26 => ?_)
      · refine Cd.seq ?_
        refine Cd.region ?_
        refine Seg.step rfl rfl (Yd.assign rfl) ?_
        refine Seg.nil ?_
        refine At.then_ ?_
        refine Cd.ret ?_
        refine At.blk_ret ?_
        refine At.then_ret ?_
        refine At.then_ret ?_
        refine At.blk_ret ?_
        refine At.then_ret ?_
        exact At.ret Try.results28 (.tmp rfl .nil) ⟨bT ((by assumption : y = x) ▸ hym), by assumption⟩
      · refine Cd.skip ?_
        refine At.blk ?_
        refine At.then_ ?_
        refine Cd.region ?_
        refine Seg.step rfl rfl (Yd.move rfl) ?_
        refine Seg.step rfl rfl (Yd.addI rfl rfl (by omega)) ?_
        refine Seg.step rfl rfl (Yd.assign rfl) ?_
        refine Seg.nil ?_
        exact At.round (i + 1) (.cons rfl (.cons rfl (.cons rfl (.cons rfl (.nil _))))) ⟨hlt, hT' (by assumption), hE0⟩ (Nat.sub_lt_sub_left hlt (Nat.lt_succ_self i))
    · exfalso; omega
  · have hil : xs.take i = xs := List.take_of_length_le (by omega)
    rw [hil] at hT
    refine Cd.seq ?_
    refine Cd.seq ?_
    refine Cd.region ?_
    refine Seg.step rfl rfl (Yd.move rfl) ?_
    refine Seg.step rfl rfl (Yd.move rfl) ?_
    refine Seg.step rfl rfl (Yd.lenS rfl rfl) ?_
    refine Seg.step rfl rfl (Yd.lss rfl rfl) ?_
    refine Seg.nil ?_
    refine At.then_ ?_
    refine Cd.condk rfl (fun h10 => ?_) (fun h10 => ?_)
    · exfalso; omega
    · refine Cd.exit ?_
      refine At.then_exit ?_
      refine At.then_exit ?_
      refine At.blk_same ?_
      refine At.then_ ?_
      refine Cd.seq ?_
      refine Cd.region ?_
      refine Seg.step rfl rfl (Yd.assign rfl) ?_
      refine Seg.nil ?_
      refine At.then_ ?_
      refine Cd.ret ?_
      exact At.ret Try.results28 (.tmp rfl .nil) ⟨bF hT, by assumption⟩
theorem idx_any (xs : List (List UInt8)) (x : List UInt8) (v : Value) (w : World) (h : NameAt w v xs) (hl : xs.length ≤ 1000000) : Ret Try.prog 37 #[v, .string ⟨x.toArray⟩] w fun r w' => (∃ i : Int, r = .int .i64 i ∧ (0 ≤ i ↔ x ∈ xs)) ∧ Ext w w' := by
  have hE0 := Ext.refl w
  obtain ⟨ao, c, rfl, hl0, hr0, hz0⟩ := h
  refine Ret.body Try.func37 rfl Try.ntmps37 rfl ?_
  refine Cd.seq ?_
  refine Cd.region ?_
  refine Seg.step rfl rfl (Yd.assign rfl) ?_
  refine Seg.nil ?_
  refine At.then_ ?_
  refine Cd.seq ?_
  refine Cd.seq ?_
  refine Cd.region ?_
  refine Seg.step rfl rfl (Yd.move rfl) ?_
  refine Seg.step rfl rfl (Yd.lenS rfl rfl) ?_
  refine Seg.step rfl rfl (Yd.move rfl) ?_
  refine Seg.nil ?_
  refine At.then_ ?_
  refine Cd.block ?_
  refine Cd.loop (σ := Nat) (fun s => [(0, .slice ao xs.length c), (1, .string ⟨x.toArray⟩), (7, .int .i64 (xs.length : Int)), (8, .int .i64 (s : Int))])
    (fun s w' => s ≤ xs.length ∧ x ∉ xs.take s ∧ Ext w w') (fun s => xs.length - s) 0 (.cons rfl (.cons rfl (.cons rfl (.cons rfl (.nil _))))) ⟨Nat.zero_le _, by simp, hE0⟩ ?_
  clear hE0
  rintro i w0 ⟨hi, hT, hE0⟩
  by_cases hlt : i < xs.length
  · obtain ⟨a, rfl⟩ : ∃ a, ao = some a := by
      cases ao with
      | none => have := hz0 rfl; omega
      | some a => exact ⟨a, rfl⟩
    have hr0 := hr0 a rfl
    obtain ⟨y, hy⟩ : ∃ y, xs[i]? = some y := ⟨_, List.getElem?_eq_getElem hlt⟩
    have hyv : (strV xs)[i]? = some (.string ⟨y.toArray⟩) := by simp [strV, hy]
    have hym := List.mem_of_getElem? hy
    have hT' : ¬ y = x → x ∉ xs.take (i + 1) := fun h hx => by
      rw [List.take_add_one, hy] at hx
      rcases List.mem_append.1 hx with hx | hx
      · exact hT hx
      · exact h (List.mem_singleton.1 hx).symm
    have hT'' : ¬ x = y → x ∉ xs.take (i + 1) := fun h => hT' (fun e => h e.symm)
    refine Cd.seq ?_
    refine Cd.region ?_
    refine Seg.step rfl rfl (Yd.lss rfl rfl) ?_
    refine Seg.nil ?_
    refine At.then_ ?_
    refine Cd.seq ?_
    refine Cd.condk rfl (fun h7 => ?_) (fun h7 => ?_)
    · refine Cd.skip ?_
      refine At.then_ ?_
      refine Cd.seq ?_
      refine Cd.block ?_
      refine Cd.seq ?_
      refine Cd.region ?_
      refine Seg.step rfl rfl (Yd.move rfl) ?_
      refine Seg.step rfl rfl (Yd.assign rfl) ?_
      refine Seg.nil ?_
      refine At.then_ ?_
      refine Cd.seq ?_
      refine Cd.region ?_
      refine Seg.step rfl rfl (Yd.move rfl) ?_
      refine Seg.step rfl rfl (Yd.move rfl) ?_
      refine Seg.step rfl rfl (Yd.move rfl) ?_
      refine Seg.step rfl rfl (Yd.indexAddr1 rfl rfl rfl (NatOf.cast _) (by omega)) ?_
      refine Seg.step rfl rfl (Yd.load1 rfl rfl ((hr0.ext hE0) _ _ hyv)) ?_
      refine Seg.step rfl rfl (Yd.eqlS rfl rfl) ?_
      refine Seg.nil ?_
      refine At.then_ ?_
      refine Cd.condk rfl (fun h29 => ?_) (fun h29 => ?_)
      · refine Cd.seq ?_
        refine Cd.region ?_
        refine Seg.step rfl rfl (Yd.move rfl) ?_
        refine Seg.step rfl rfl (Yd.assign rfl) ?_
        refine Seg.nil ?_
        refine At.then_ ?_
        refine Cd.ret ?_
        refine At.blk_ret ?_
        refine At.then_ret ?_
        refine At.then_ret ?_
        refine At.blk_ret ?_
        refine At.then_ret ?_
        exact At.ret Try.results37 (.tmp rfl .nil) ⟨⟨_, rfl, ⟨fun _ => (by assumption : x = y) ▸ hym, fun _ => by omega⟩⟩, by assumption⟩
      · refine Cd.skip ?_
        refine At.blk ?_
        refine At.then_ ?_
        refine Cd.region ?_
        refine Seg.step rfl rfl (Yd.addI rfl rfl (by omega)) ?_
        refine Seg.step rfl rfl (Yd.move rfl) ?_
        refine Seg.nil ?_
        exact At.round (i + 1) (.cons rfl (.cons rfl (.cons rfl (.cons rfl (.nil _))))) ⟨hlt, hT'' (by assumption), hE0⟩ (Nat.sub_lt_sub_left hlt (Nat.lt_succ_self i))
    · exfalso; omega
  · have hil : xs.take i = xs := List.take_of_length_le (by omega)
    rw [hil] at hT
    refine Cd.seq ?_
    refine Cd.region ?_
    refine Seg.step rfl rfl (Yd.lss rfl rfl) ?_
    refine Seg.nil ?_
    refine At.then_ ?_
    refine Cd.seq ?_
    refine Cd.condk rfl (fun h7 => ?_) (fun h7 => ?_)
    · exfalso; omega
    · refine Cd.exit ?_
      refine At.then_exit ?_
      refine At.then_exit ?_
      refine At.blk_same ?_
      refine At.then_ ?_
      refine Cd.seq ?_
      refine Cd.region ?_
      refine Seg.step rfl rfl (Yd.assign rfl) ?_
      refine Seg.nil ?_
      refine At.then_ ?_
      refine Cd.ret ?_
      exact At.ret Try.results37 (.tmp rfl .nil) ⟨⟨_, rfl, ⟨fun h => by omega, fun h => absurd h hT⟩⟩, by assumption⟩
theorem contains_any (xs : List (List UInt8)) (x : List UInt8) (v : Value) (w : World) (h : NameAt w v xs) (hl : xs.length ≤ 1000000) : Ret Try.prog 27 #[v, .string ⟨x.toArray⟩] w fun r w' => r = .bool (decide (x ∈ xs)) ∧ Ext w w' := by
  have hE0 := Ext.refl w
  refine Ret.body Try.func27 rfl Try.ntmps27 rfl ?_
  refine Cd.seq ?_
  refine Cd.region ?_
  refine Seg.step rfl rfl (Yd.assign rfl) ?_
  refine Seg.nil ?_
  refine At.then_ ?_
  refine Cd.seq ?_
  refine Cd.region ?_
  refine Seg.step rfl rfl (Yd.move rfl) ?_
  refine Seg.step rfl rfl (Yd.move rfl) ?_
  (refine Seg.call rfl rfl (own_of rfl) rfl (idx_any xs x v _ h hl) ?_; rintro _ w10 ⟨⟨i, rfl, hi⟩, hE10⟩)
  replace hE0 := Ext.trans hE0 hE10
  refine Seg.step rfl rfl (Yd.geq rfl rfl) ?_
  refine Seg.step rfl rfl (Yd.assign rfl) ?_
  refine Seg.nil ?_
  refine At.then_ ?_
  refine Cd.ret ?_
  exact At.ret Try.results27 (.tmp rfl .nil) ⟨by rw [decide_eq_decide.2 hi]; rfl, by assumption⟩
end Go.Proofs.Ytbmgigbedmgfpaa
