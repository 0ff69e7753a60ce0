/- Names: small letters, equality, few; the walks. -/
import Derived.Test.YtidhelgoopdloaaNam
namespace Go.Proofs.Ytidhelgoopdloaa
open Go Go.RowKit

theorem low_step {l : List UInt8} {i : Nat} (h : i < l.length) : bytesV (lowS (l.take i)) ++ [Value.int .u8 (lowB (l.getD i 0)).toNat] = bytesV (lowS (l.take (i + 1))) := by
  rw [List.take_succ_eq_append_getElem h, List.getD_eq_getElem?_getD, List.getElem?_eq_getElem h]
  simp only [bytesV, lowS, List.map_append, List.map_cons, List.map_nil, Option.getD_some]
theorem lowerS_any (l : List UInt8) (w : World) (hb : l.length ≤ 1000) : Ret Try.prog 33 #[.string ⟨l.toArray⟩] w fun v w' => v = .string ⟨(lowS l).toArray⟩ ∧ Ext w w' := by
  have hE0 := Ext.refl w
  refine Ret.body Try.func33 rfl Try.ntmps33 rfl ?_
  refine Cd.seq ?_
  refine Cd.region ?_
  refine Seg.step rfl rfl (Yd.assign rfl) ?_
  refine Seg.nil ?_
  refine At.then_ ?_
  refine Cd.seq ?_
  refine Cd.region ?_
  refine Seg.step rfl rfl (Yd.assign rfl) ?_
  refine Seg.nil ?_
  refine At.then_ ?_
  refine Cd.seq ?_
  refine Cd.seq ?_
  refine Cd.region ?_
  refine Seg.step rfl rfl (Yd.assign rfl) ?_
  refine Seg.nil ?_
  refine At.then_ ?_
  refine Cd.block ?_
  refine Cd.loop (σ := Nat × Value) (fun s => [(0, .string ⟨l.toArray⟩), (3, s.2), (4, .int .i64 s.1)])
    (fun s w' => s.1 ≤ l.length ∧ w'.ownsRow w.heap.size 5 1 s.2 s.1 (bytesV (lowS (l.take s.1))) ∧ Ext w w') (fun s => l.length - s.1) (0, .slice none 0 0) (.cons rfl (.cons rfl (.cons rfl (.nil _))))
    ⟨Nat.zero_le _, World.ownsRow_nil _ _ _ _, hE0⟩ ?_
  clear hE0
  rintro ⟨i, v⟩ w0 ⟨hi, hO, hE0⟩
  simp only at hi hO ⊢
  by_cases hlt : i < l.length
  · refine Cd.seq ?_
    refine Cd.seq ?_
    refine Cd.region ?_
    refine Seg.step rfl rfl (Yd.move rfl) ?_
    refine Seg.step rfl rfl (Yd.move rfl) ?_
    refine Seg.step rfl rfl (Yd.lenStr rfl rfl) ?_
    refine Seg.step rfl rfl (Yd.lss rfl rfl) ?_
    refine Seg.nil ?_
    refine At.then_ ?_
    refine Cd.condk rfl (fun h10 => ?_) (fun h10 => ?_)
    · refine Cd.skip ?_
      refine At.then_ ?_
      refine Cd.seq ?_
      refine Cd.block ?_
      refine Cd.seq ?_
      refine Cd.region ?_
      refine Seg.step rfl rfl (Yd.move rfl) ?_
      refine Seg.step rfl rfl (Yd.move rfl) ?_
      refine Seg.step rfl rfl (Yd.indexStr rfl rfl rfl (NatOf.cast _) (by omega)) ?_
      refine Seg.step rfl rfl (Yd.assign rfl) ?_
      refine Seg.nil ?_
      refine At.then_ ?_
      refine Cd.seq ?_
      refine Cd.seq ?_
      refine Cd.region ?_
      refine Seg.step rfl rfl (Yd.move rfl) ?_
      refine Seg.step rfl rfl (Yd.geq rfl rfl) ?_
      refine Seg.step rfl rfl (Yd.move rfl) ?_
      refine Seg.gsplitp rfl rfl (fun h30 => ?_) (fun h30 => ?_)
      · refine Seg.step rfl rfl (Yd.move rfl) ?_
        refine Seg.step rfl rfl (Yd.leq rfl rfl) ?_
        refine Seg.step rfl rfl (Yd.pickT rfl rfl) ?_
        refine Seg.nil ?_
        refine At.then_ ?_
        refine Cd.condk rfl (fun h37 => ?_) (fun h37 => ?_)
        · refine Cd.region ?_
          refine Seg.step rfl rfl (Yd.move rfl) ?_
          refine Seg.step rfl rfl (Yd.add rfl rfl) ?_
          refine Seg.step rfl rfl (Yd.assign rfl) ?_
          refine Seg.nil ?_
          refine At.then_ ?_
          refine Cd.region ?_
          refine Seg.step rfl rfl (Yd.move rfl) ?_
          refine Seg.step rfl rfl (Yd.move rfl) ?_
          refine Seg.buildSlice rfl rfl rfl rfl rfl rfl rfl rfl (fun w48 b48 hE48 hB48 hb48 hO48 => ?_)
          have hlt48_0 := Nat.le_trans hE0.size hb48
          replace hO := own_ext hO hE48
          replace hE0 := Ext.trans hE0 hE48
          (refine Seg.append (news := [.int .u8 (lowB (l.getD i 0)).toNat]) (m' := 1) rfl rfl rfl rfl rfl rfl rfl rfl rfl hO (by first | (rw [← low_in (b := l.getD i 0) (by omega) (by omega)]; exact own_sl (by assumption)) | (rw [← low_out (b := l.getD i 0) (by omega)]; exact own_sl (by assumption))) (fun c hc => by cases List.mem_singleton.1 hc; rfl) (Below.size hE0) (by omega) rfl (fun v49 w49 hN49 hG49 _ => ?_); rw [low_step hlt] at hN49; replace hE0 := hE0.own hO (Nat.le_refl _) hG49)
          refine Seg.step rfl rfl (Yd.assign rfl) ?_
          refine Seg.nil ?_
          refine At.blk ?_
          refine At.then_ ?_
          refine Cd.region ?_
          refine Seg.step rfl rfl (Yd.move rfl) ?_
          refine Seg.step rfl rfl (Yd.addI rfl rfl (by omega)) ?_
          refine Seg.step rfl rfl (Yd.assign rfl) ?_
          refine Seg.nil ?_
          exact At.round (i + 1, _) (.cons rfl (.cons rfl (.cons rfl (.nil _)))) ⟨by show _ + _ ≤ _; omega, by assumption, hE0⟩ (by show _ - _ < _ - _; omega)
        · refine Cd.skip ?_
          refine At.then_ ?_
          refine Cd.region ?_
          refine Seg.step rfl rfl (Yd.move rfl) ?_
          refine Seg.step rfl rfl (Yd.move rfl) ?_
          refine Seg.buildSlice rfl rfl rfl rfl rfl rfl rfl rfl (fun w66 b66 hE66 hB66 hb66 hO66 => ?_)
          have hlt66_0 := Nat.le_trans hE0.size hb66
          replace hO := own_ext hO hE66
          replace hE0 := Ext.trans hE0 hE66
          (refine Seg.append (news := [.int .u8 (lowB (l.getD i 0)).toNat]) (m' := 1) rfl rfl rfl rfl rfl rfl rfl rfl rfl hO (by first | (rw [← low_in (b := l.getD i 0) (by omega) (by omega)]; exact own_sl (by assumption)) | (rw [← low_out (b := l.getD i 0) (by omega)]; exact own_sl (by assumption))) (fun c hc => by cases List.mem_singleton.1 hc; rfl) (Below.size hE0) (by omega) rfl (fun v67 w67 hN67 hG67 _ => ?_); rw [low_step hlt] at hN67; replace hE0 := hE0.own hO (Nat.le_refl _) hG67)
          refine Seg.step rfl rfl (Yd.assign rfl) ?_
          refine Seg.nil ?_
          refine At.blk ?_
          refine At.then_ ?_
          refine Cd.region ?_
          refine Seg.step rfl rfl (Yd.move rfl) ?_
          refine Seg.step rfl rfl (Yd.addI rfl rfl (by omega)) ?_
          refine Seg.step rfl rfl (Yd.assign rfl) ?_
          refine Seg.nil ?_
          exact At.round (i + 1, _) (.cons rfl (.cons rfl (.cons rfl (.nil _)))) ⟨by show _ + _ ≤ _; omega, by assumption, hE0⟩ (by show _ - _ < _ - _; omega)
      · refine Seg.skip rfl rfl ?_
        refine Seg.skip rfl rfl ?_
        refine Seg.step rfl rfl (Yd.pickF rfl rfl) ?_
        refine Seg.nil ?_
        refine At.then_ ?_
        refine Cd.condF rfl ?_
        refine Cd.skip ?_
        refine At.then_ ?_
        refine Cd.region ?_
        refine Seg.step rfl rfl (Yd.move rfl) ?_
        refine Seg.step rfl rfl (Yd.move rfl) ?_
        refine Seg.buildSlice rfl rfl rfl rfl rfl rfl rfl rfl (fun w90 b90 hE90 hB90 hb90 hO90 => ?_)
        have hlt90_0 := Nat.le_trans hE0.size hb90
        replace hO := own_ext hO hE90
        replace hE0 := Ext.trans hE0 hE90
        (refine Seg.append (news := [.int .u8 (lowB (l.getD i 0)).toNat]) (m' := 1) rfl rfl rfl rfl rfl rfl rfl rfl rfl hO (by first | (rw [← low_in (b := l.getD i 0) (by omega) (by omega)]; exact own_sl (by assumption)) | (rw [← low_out (b := l.getD i 0) (by omega)]; exact own_sl (by assumption))) (fun c hc => by cases List.mem_singleton.1 hc; rfl) (Below.size hE0) (by omega) rfl (fun v91 w91 hN91 hG91 _ => ?_); rw [low_step hlt] at hN91; replace hE0 := hE0.own hO (Nat.le_refl _) hG91)
        refine Seg.step rfl rfl (Yd.assign rfl) ?_
        refine Seg.nil ?_
        refine At.blk ?_
        refine At.then_ ?_
        refine Cd.region ?_
        refine Seg.step rfl rfl (Yd.move rfl) ?_
        refine Seg.step rfl rfl (Yd.addI rfl rfl (by omega)) ?_
        refine Seg.step rfl rfl (Yd.assign rfl) ?_
        refine Seg.nil ?_
        exact At.round (i + 1, _) (.cons rfl (.cons rfl (.cons rfl (.nil _)))) ⟨by show _ + _ ≤ _; omega, by assumption, hE0⟩ (by show _ - _ < _ - _; omega)
    · exfalso; omega
  · obtain rfl : i = l.length := by omega
    have hS : Sl w0 1 v (lowS l).length (bytesV (lowS l)) := by
      have := own_sl hO
      rw [List.take_length] at this
      rw [lowS_length]
      exact this
    refine Cd.seq ?_
    refine Cd.seq ?_
    refine Cd.region ?_
    refine Seg.step rfl rfl (Yd.move rfl) ?_
    refine Seg.step rfl rfl (Yd.move rfl) ?_
    refine Seg.step rfl rfl (Yd.lenStr rfl rfl) ?_
    refine Seg.step rfl rfl (Yd.lss rfl rfl) ?_
    refine Seg.nil ?_
    refine At.then_ ?_
    refine Cd.condk rfl (fun h10 => ?_) (fun h10 => ?_)
    · exfalso; omega
    · refine Cd.exit ?_
      refine At.then_exit ?_
      refine At.then_exit ?_
      refine At.blk_same ?_
      refine At.then_ ?_
      refine Cd.seq ?_
      refine Cd.region ?_
      refine Seg.step rfl rfl (Yd.move rfl) ?_
      refine Seg.step rfl rfl (Yd.bts rfl rfl rfl rfl (by assumption)) ?_
      refine Seg.step rfl rfl (Yd.assign rfl) ?_
      refine Seg.nil ?_
      refine At.then_ ?_
      refine Cd.ret ?_
      exact At.ret Try.results33 (.tmp rfl .nil) ⟨rfl, hE0⟩
theorem sameT_any (xs ys : List (List UInt8)) (v0 v1 : Value) (w : World) (h0 : NameAt w v0 xs) (h1 : NameAt w v1 ys) (hx : xs.length ≤ 9223372036854775807) :
    Ret Try.prog 29 #[v0, v1] w fun v w' => v = .bool (decide (xs = ys)) ∧ Ext w w' := by
  have hE0 := Ext.refl w
  obtain ⟨ao, c, rfl, hl0, hr0, hz0⟩ := h0
  obtain ⟨ao', c', rfl, hl1, hr1, hz1⟩ := h1
  refine Ret.body Try.func29 rfl Try.ntmps29 rfl ?_
  refine Cd.seq ?_
  refine Cd.region ?_
  refine Seg.step rfl rfl (Yd.assign rfl) ?_
  refine Seg.nil ?_
  refine At.then_ ?_
  refine Cd.seq ?_
  refine Cd.seq ?_
  refine Cd.region ?_
  refine Seg.step rfl rfl (Yd.move rfl) ?_
  refine Seg.step rfl rfl (Yd.lenS rfl rfl) ?_
  refine Seg.step rfl rfl (Yd.move rfl) ?_
  refine Seg.step rfl rfl (Yd.lenS rfl rfl) ?_
  refine Seg.step rfl rfl (Yd.neq rfl rfl) ?_
  refine Seg.nil ?_
  refine At.then_ ?_
  refine Cd.condk rfl (fun h17 => ?_) (fun h17 => ?_)
  · refine Cd.seq ?_
    refine Cd.region ?_
    refine Seg.step rfl rfl (Yd.assign rfl) ?_
    refine Seg.nil ?_
    refine At.then_ ?_
    refine Cd.ret ?_
    refine At.then_ret ?_
    exact At.ret Try.results29 (.tmp rfl .nil) ⟨bF (fun e => by have := congrArg List.length e; omega), hE0⟩
  refine Cd.skip ?_
  refine At.then_ ?_
  refine Cd.seq ?_
  refine Cd.seq ?_
  refine Cd.region ?_
  refine Seg.step rfl rfl (Yd.assign rfl) ?_
  refine Seg.nil ?_
  refine At.then_ ?_
  refine Cd.block ?_
  have hlm : xs.length = ys.length := by omega
  refine Cd.loop (σ := Nat) (fun s => [(0, .slice ao xs.length c), (1, .slice ao' ys.length c'), (4, .bool false), (5, .int .i64 s)])
    (fun s w' => s ≤ xs.length ∧ Upto id xs ys s ∧ Ext w w') (fun s => xs.length - s) 0 (.cons rfl (.cons rfl (.cons rfl (.cons rfl (.nil _))))) ⟨Nat.zero_le _, Upto.zero, hE0⟩ ?_
  clear hE0
  intro i w0 ⟨hi, hT, hE0⟩
  by_cases hlt : i < xs.length
  · obtain ⟨a, rfl⟩ : ∃ a, ao = some a := by
      cases ao with
      | none => have := hz0 rfl; omega
      | some a => exact ⟨a, rfl⟩
    obtain ⟨a', rfl⟩ : ∃ a, ao' = some a := by
      cases ao' with
      | none => have := hz1 rfl; omega
      | some a => exact ⟨a, rfl⟩
    have hr0 := hr0 a rfl
    have hr1 := hr1 a' rfl
    refine Cd.seq ?_
    refine Cd.seq ?_
    refine Cd.region ?_
    refine Seg.step rfl rfl (Yd.move rfl) ?_
    refine Seg.step rfl rfl (Yd.move rfl) ?_
    refine Seg.step rfl rfl (Yd.lenS rfl rfl) ?_
    refine Seg.step rfl rfl (Yd.lss rfl rfl) ?_
    refine Seg.nil ?_
    refine At.then_ ?_
    refine Cd.condk rfl (fun h27 => ?_) (fun h27 => ?_)
    · refine Cd.skip ?_
      refine At.then_ ?_
      refine Cd.seq ?_
      refine Cd.block ?_
      refine Cd.seq ?_
      refine Cd.quiet (by kernel_rfl) (by kernel_rfl) ?_
      refine SegQ.step rfl rfl (fun w' hw' => Yd.move rfl) ?_
      refine SegQ.step rfl rfl (fun w' hw' => Yd.move rfl) ?_
      refine SegQ.step rfl rfl (fun w' hw' => Yd.indexAddr1 rfl rfl rfl (NatOf.cast _) (by omega)) ?_
      refine SegQ.step rfl rfl (fun w' hw' => Yd.load1 rfl rfl ((hr0.ext (hE0.trans hw')) _ _ (strV_get hlt))) ?_
      refine SegQ.step rfl rfl (fun w' hw' => Yd.move rfl) ?_
      refine SegQ.step rfl rfl (fun w' hw' => Yd.move rfl) ?_
      refine SegQ.step rfl rfl (fun w' hw' => Yd.indexAddr1 rfl rfl rfl (NatOf.cast _) (by omega)) ?_
      refine SegQ.step rfl rfl (fun w' hw' => Yd.load1 rfl rfl ((hr1.ext (hE0.trans hw')) _ _ (strV_get (hlm ▸ hlt)))) ?_
      refine SegQ.step rfl rfl (fun w' hw' => Yd.neqS rfl rfl) ?_
      refine SegQ.nil fun w44 hE44 => ?_
      replace hE0 := Ext.trans hE0 hE44
      refine At.then_ ?_
      refine Cd.condk rfl (fun h46 => ?_) (fun h46 => ?_)
      · refine Cd.seq ?_
        refine Cd.region ?_
        refine Seg.step rfl rfl (Yd.assign rfl) ?_
        refine Seg.nil ?_
        refine At.then_ ?_
        refine Cd.ret ?_
        refine At.blk_ret ?_
        refine At.then_ret ?_
        refine At.then_ret ?_
        refine At.blk_ret ?_
        refine At.then_ret ?_
        exact At.ret Try.results29 (.tmp rfl .nil) ⟨bF (fun e => Upto.not (f := id) hlm hlt (by assumption) (by rw [e])), hE0⟩
      · refine Cd.skip ?_
        refine At.blk ?_
        refine At.then_ ?_
        refine Cd.region ?_
        refine Seg.step rfl rfl (Yd.move rfl) ?_
        refine Seg.step rfl rfl (Yd.addI rfl rfl (by omega)) ?_
        refine Seg.step rfl rfl (Yd.assign rfl) ?_
        refine Seg.nil ?_
        exact At.round (i + 1) (.cons rfl (.cons rfl (.cons rfl (.cons rfl (.nil _))))) ⟨by omega, hT.succ (Classical.byContradiction fun hne => absurd hne (by assumption)), hE0⟩ (by show _ - _ < _ - _; omega)
    · exfalso; omega
  · obtain rfl : i = xs.length := by omega
    refine Cd.seq ?_
    refine Cd.seq ?_
    refine Cd.region ?_
    refine Seg.step rfl rfl (Yd.move rfl) ?_
    refine Seg.step rfl rfl (Yd.move rfl) ?_
    refine Seg.step rfl rfl (Yd.lenS rfl rfl) ?_
    refine Seg.step rfl rfl (Yd.lss rfl rfl) ?_
    refine Seg.nil ?_
    refine At.then_ ?_
    refine Cd.condk rfl (fun h27 => ?_) (fun h27 => ?_)
    · exfalso; omega
    · refine Cd.exit ?_
      refine At.then_exit ?_
      refine At.then_exit ?_
      refine At.blk_same ?_
      refine At.then_ ?_
      refine Cd.seq ?_
      refine Cd.region ?_
      refine Seg.step rfl rfl (Yd.assign rfl) ?_
      refine Seg.nil ?_
      refine At.then_ ?_
      refine Cd.ret ?_
      exact At.ret Try.results29 (.tmp rfl .nil) ⟨bT (by simpa using hT.all hlm), hE0⟩
/-- The size of a name's first i labels. -/
def szTo (xs : List (List UInt8)) (i : Nat) : Nat := ((xs.take i).map fun l => l.length + 1).sum
theorem szTo_succ {xs : List (List UInt8)} {i : Nat} (h : i < xs.length) : szTo xs (i + 1) = szTo xs i + ((xs.getD i []).length + 1) := by
  unfold szTo
  rw [List.take_succ_eq_append_getElem h, List.getD_eq_getElem?_getD, List.getElem?_eq_getElem h]
  simp only [List.map_append, List.sum_append, List.map_cons, List.map_nil, List.sum_cons, List.sum_nil, Option.getD_some, Nat.add_zero]
theorem fit_of_size {xs : List (List UInt8)} (h : szTo xs xs.length ≤ 400) : Fit xs := by
  unfold szTo at h
  rw [List.take_length] at h
  have key : ∀ ys : List (List UInt8), ys.length ≤ (ys.map fun l => l.length + 1).sum ∧ ∀ l ∈ ys, l.length ≤ (ys.map fun l => l.length + 1).sum := by
    intro ys
    induction ys with
    | nil => simp
    | cons y ys ih =>
      simp only [List.map_cons, List.sum_cons, List.length_cons, List.mem_cons]
      refine ⟨by omega, fun l hl => ?_⟩
      rcases hl with rfl | hl
      · omega
      · have := ih.2 l hl; omega
  exact ⟨by have := (key xs).1; omega, fun l hl => by have := (key xs).2 l hl; omega⟩
/-- No text of the name is longer than a machine's memory. -/
def Held (xs : List (List UInt8)) : Prop := xs.length ≤ 140737488351232 ∧ ∀ l ∈ xs, l.length ≤ 140737488351232
theorem Held.get {xs : List (List UInt8)} (h : Held xs) (i : Nat) : (xs.getD i []).length ≤ 140737488351232 := by
  by_cases hi : i < xs.length
  · rw [List.getD_eq_getElem?_getD, List.getElem?_eq_getElem hi]
    exact h.2 _ (List.getElem_mem hi)
  · rw [List.getD_eq_getElem?_getD, List.getElem?_eq_none (by omega)]
    exact Nat.zero_le _
theorem few_any (xs : List (List UInt8)) (v0 : Value) (w : World) (h0 : NameAt w v0 xs) (hx : Held xs) :
    Ret Try.prog 13 #[v0] w fun v w' => (∃ b : Bool, v = .bool b ∧ (b = true → Fit xs)) ∧ Ext w w' := by
  have hE0 := Ext.refl w
  obtain ⟨ao, c, rfl, hl0, hr0, hz0⟩ := h0
  have hx1 := hx.1
  refine Ret.body Try.func13 rfl Try.ntmps13 rfl ?_
  refine Cd.seq ?_
  refine Cd.region ?_
  refine Seg.step rfl rfl (Yd.assign rfl) ?_
  refine Seg.nil ?_
  refine At.then_ ?_
  refine Cd.seq ?_
  refine Cd.region ?_
  refine Seg.step rfl rfl (Yd.assign rfl) ?_
  refine Seg.nil ?_
  refine At.then_ ?_
  refine Cd.seq ?_
  refine Cd.seq ?_
  refine Cd.region ?_
  refine Seg.step rfl rfl (Yd.assign rfl) ?_
  refine Seg.nil ?_
  refine At.then_ ?_
  refine Cd.block ?_
  refine Cd.loop (σ := Nat × Int) (fun s => [(0, .slice ao xs.length c), (2, .bool false), (3, .int .i64 s.2), (4, .int .i64 s.1)])
    (fun s w' => s.1 ≤ xs.length ∧ s.2 = szTo xs s.1 ∧ szTo xs s.1 ≤ 400 ∧ Ext w w') (fun s => xs.length - s.1) (0, 0) (.cons rfl (.cons rfl (.cons rfl (.cons rfl (.nil _))))) ⟨Nat.zero_le _, rfl, Nat.zero_le _, hE0⟩ ?_
  clear hE0
  rintro ⟨i, z⟩ w0 ⟨hi, hz, hT, hE0⟩
  simp only at hi hz hT ⊢
  by_cases hlt : i < xs.length
  · obtain ⟨a, rfl⟩ : ∃ a, ao = some a := by
      cases ao with
      | none => have := hz0 rfl; omega
      | some a => exact ⟨a, rfl⟩
    have hr0 := hr0 a rfl
    have hg := hx.get i
    have hs := szTo_succ hlt
    refine Cd.seq ?_
    refine Cd.seq ?_
    refine Cd.region ?_
    refine Seg.step rfl rfl (Yd.move rfl) ?_
    refine Seg.step rfl rfl (Yd.move rfl) ?_
    refine Seg.step rfl rfl (Yd.lenS rfl rfl) ?_
    refine Seg.step rfl rfl (Yd.lss rfl rfl) ?_
    refine Seg.nil ?_
    refine At.then_ ?_
    refine Cd.condk rfl (fun h11 => ?_) (fun h11 => ?_)
    · refine Cd.skip ?_
      refine At.then_ ?_
      refine Cd.seq ?_
      refine Cd.block ?_
      refine Cd.seq ?_
      refine Cd.region ?_
      refine Seg.step rfl rfl (Yd.move rfl) ?_
      refine Seg.step rfl rfl (Yd.move rfl) ?_
      refine Seg.step rfl rfl (Yd.move rfl) ?_
      refine Seg.step rfl rfl (Yd.indexAddr1 rfl rfl rfl (NatOf.cast _) (by omega)) ?_
      refine Seg.step rfl rfl (Yd.load1 rfl rfl ((hr0.ext hE0) _ _ (strV_get hlt))) ?_
      refine Seg.step rfl rfl (Yd.lenStr rfl rfl) ?_
      refine Seg.step rfl rfl (Yd.addI rfl rfl (by omega)) ?_
      refine Seg.step rfl rfl (Yd.addI rfl rfl (by omega)) ?_
      refine Seg.step rfl rfl (Yd.assign rfl) ?_
      refine Seg.nil ?_
      refine At.then_ ?_
      refine Cd.seq ?_
      refine Cd.region ?_
      refine Seg.step rfl rfl (Yd.move rfl) ?_
      refine Seg.step rfl rfl (Yd.gtr rfl rfl) ?_
      refine Seg.nil ?_
      refine At.then_ ?_
      refine Cd.condk rfl (fun h36 => ?_) (fun h36 => ?_)
      · refine Cd.seq ?_
        refine Cd.region ?_
        refine Seg.step rfl rfl (Yd.assign rfl) ?_
        refine Seg.nil ?_
        refine At.then_ ?_
        refine Cd.ret ?_
        refine At.blk_ret ?_
        refine At.then_ret ?_
        refine At.then_ret ?_
        refine At.blk_ret ?_
        refine At.then_ret ?_
        exact At.ret Try.results13 (.tmp rfl .nil) ⟨⟨false, rfl, fun h => (by cases h)⟩, hE0⟩
      · refine Cd.skip ?_
        refine At.blk ?_
        refine At.then_ ?_
        refine Cd.region ?_
        refine Seg.step rfl rfl (Yd.move rfl) ?_
        refine Seg.step rfl rfl (Yd.addI rfl rfl (by omega)) ?_
        refine Seg.step rfl rfl (Yd.assign rfl) ?_
        refine Seg.nil ?_
        exact At.round (i + 1, _) (.cons rfl (.cons rfl (.cons rfl (.cons rfl (.nil _))))) ⟨by show _ + _ ≤ _; omega, by show _ = ((szTo xs (i + 1) : Nat) : Int); omega, by show szTo xs (i + 1) ≤ 400; omega, hE0⟩ (by show _ - _ < _ - _; omega)
    · exfalso; omega
  · obtain rfl : i = xs.length := by omega
    refine Cd.seq ?_
    refine Cd.seq ?_
    refine Cd.region ?_
    refine Seg.step rfl rfl (Yd.move rfl) ?_
    refine Seg.step rfl rfl (Yd.move rfl) ?_
    refine Seg.step rfl rfl (Yd.lenS rfl rfl) ?_
    refine Seg.step rfl rfl (Yd.lss rfl rfl) ?_
    refine Seg.nil ?_
    refine At.then_ ?_
    refine Cd.condk rfl (fun h11 => ?_) (fun h11 => ?_)
    · exfalso; omega
    · refine Cd.exit ?_
      refine At.then_exit ?_
      refine At.then_exit ?_
      refine At.blk_same ?_
      refine At.then_ ?_
      refine Cd.seq ?_
      refine Cd.region ?_
      refine Seg.step rfl rfl (Yd.assign rfl) ?_
      refine Seg.nil ?_
      refine At.then_ ?_
      refine Cd.ret ?_
      exact At.ret Try.results13 (.tmp rfl .nil) ⟨⟨true, rfl, fun _ => fit_of_size hT⟩, hE0⟩
end Go.Proofs.Ytidhelgoopdloaa
