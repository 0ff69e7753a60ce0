/- What becomes of the draws that a lot was made of does not matter to it: the walk of the law. -/
import Derived.Test.YtccppgpedlfjdaaLot
import Derived.Test.YtccppgpedlfjdaaWkh
namespace Go.Proofs.Ytccppgpedlfjdaa
open Go Go.RowKit
def Mine (w : World) (g m : Nat) : Prop := ∃ cs, Bx w g cs ∧ ∀ j, j < m → ∃ z : Int, cs[j]? = some (.int .i64 z)
theorem mine_set {cs : List Value} {m i j : Nat} {z : Int} (h : ∀ j, j < m → ∃ z : Int, cs[j]? = some (.int .i64 z)) (hj : j < m) : ∃ z' : Int, (cs.set i (.int .i64 z))[j]? = some (.int .i64 z') := by
  obtain ⟨y, hy⟩ := h j hj
  rw [List.getElem?_set]
  split
  · rename_i he
    rw [if_pos (by rw [he]; exact (List.getElem?_eq_some_iff.1 hy).1)]
    exact ⟨z, rfl⟩
  · exact ⟨y, hy⟩
set_option maxHeartbeats 2000000 in
theorem law22b (xs : List Int) (n : Int) (v0 : Value) (w : World) (h0 : Sl w 1 v0 xs.length (ints xs)) (hn : n ≤ 9223372036854775807) :
    Ret Try.prog 4 #[v0, .int .i64 n] w fun v w' => v = .bool true ∧ Ext w w' := by
  have hE0 := Ext.refl w
  obtain ⟨ao, c, rfl, hl0, hr0, hz0⟩ := h0
  have hs0 : Sl w 1 (.slice ao xs.length c) xs.length (ints xs) := ⟨ao, c, rfl, hl0, hr0, hz0⟩
  have hlt0 := hs0.lt
  refine Ret.body Try.func4 rfl Try.ntmps4 rfl ?_
  refine Cd.seq ?_
  refine Cd.region ?_
  refine Seg.step rfl rfl (Yd.assign rfl) ?_
  refine Seg.nil ?_
  refine At.then_ ?_
  refine Cd.seq ?_
  refine Cd.seq ?_
  refine Cd.region ?_
  (refine Seg.call rfl rfl (own_of rfl) rfl (works22 _) ?_; rintro _ w9 ⟨rfl, hE9⟩; have hS9 := hE9.size)
  replace hE0 := Ext.trans hE0 hE9
  replace hs0 := hs0.ext hE9
  refine Seg.step rfl rfl (Yd.not rfl) ?_
  refine Seg.step rfl rfl (Yd.move rfl) ?_
  refine Seg.step rfl rfl (Yd.move rfl) ?_
  refine Seg.step rfl rfl (Yd.lenS rfl rfl) ?_
  refine Seg.step rfl rfl (Yd.gtr rfl rfl) ?_
  refine Seg.step rfl rfl (Yd.pickF rfl rfl) ?_
  refine Seg.nil ?_
  refine At.then_ ?_
  refine Cd.condk rfl (fun h18 => ?_) (fun h18 => ?_)
  · refine Cd.seq ?_
    refine Cd.region ?_
    (refine Seg.call rfl rfl (own_of rfl) rfl (works22 _) ?_; rintro _ w22 ⟨rfl, hE22⟩; have hS9 := hE22.size)
    replace hE9 := Ext.trans hE9 hE22
    replace hE0 := Ext.trans hE0 hE22
    replace hs0 := hs0.ext hE22
    refine Seg.step rfl rfl (Yd.assign rfl) ?_
    refine Seg.nil ?_
    refine At.then_ ?_
    refine Cd.ret ?_
    refine At.then_ret ?_
    exact At.ret Try.results4 (.tmp rfl .nil) ⟨rfl, hE0⟩
  refine Cd.skip ?_
  refine At.then_ ?_
  refine Cd.seq ?_
  refine Cd.region ?_
  refine Seg.buildSlice rfl rfl rfl rfl rfl rfl rfl rfl (fun w34 b34 hE34 hB34 hb34 hO34 => ?_)
  have hlt34_0 := Nat.le_trans hE9.size hb34
  have hlt34_1 := Nat.le_trans hE0.size hb34
  replace hE9 := Ext.trans hE9 hE34
  replace hE0 := Ext.trans hE0 hE34
  replace hs0 := hs0.ext hE34
  refine Seg.step rfl rfl (Yd.move rfl) ?_
  (refine Seg.append0 rfl rfl rfl rfl rfl rfl rfl rfl rfl (by assumption) hs0 (ints_one xs) (Below.size (by assumption)) (by omega) rfl (fun v36 w36 hO36 hW36 _ => ?_); obtain ⟨ao36, c36, rfl⟩ := own_shape hO36; have hM := own_ge hO36; have hM' := (own_sl hO36).lt)
  replace hE34 := Ext.wr' hE34 hW36 (by omega)
  replace hE9 := Ext.wr' hE9 hW36 (by omega)
  replace hE0 := Ext.wr' hE0 hW36 (by omega)
  refine Seg.step rfl rfl (Yd.assign rfl) ?_
  refine Seg.nil ?_
  refine At.then_ ?_
  refine Cd.seq ?_
  refine Cd.region ?_
  refine Seg.step rfl rfl (Yd.move rfl) ?_
  (refine Seg.call rfl rfl (own_of rfl) rfl (new_any xs _ _ (own_sl (by assumption)) (by omega)) ?_; rintro _ w43 ⟨b43, rfl, hE43, hb43, hL⟩)
  have hlt43_0 := Nat.le_trans hE34.size hb43
  have hlt43_1 := Nat.le_trans hE9.size hb43
  have hlt43_2 := Nat.le_trans hE0.size hb43
  replace hO36 := own_ext hO36 hE43
  replace hE34 := Ext.trans hE34 hE43
  replace hE9 := Ext.trans hE9 hE43
  replace hE0 := Ext.trans hE0 hE43
  refine Seg.step rfl rfl (Yd.assign rfl) ?_
  refine Seg.nil ?_
  refine At.then_ ?_
  refine Cd.seq ?_
  refine Cd.region ?_
  refine Seg.step rfl rfl (Yd.move rfl) ?_
  refine Seg.step rfl rfl (Yd.build rfl rfl rfl rfl) ?_
  refine Seg.box rfl rfl rfl (fun w51 b51 hE51 hB51 hb51 => ?_)
  have hlt51_0 := Nat.le_trans hE43.size hb51
  have hlt51_1 := Nat.le_trans hE34.size hb51
  have hlt51_2 := Nat.le_trans hE9.size hb51
  have hlt51_3 := Nat.le_trans hE0.size hb51
  replace hE43 := Ext.trans hE43 hE51
  replace hL := hL.ext hE51
  replace hO36 := own_ext hO36 hE51
  replace hE34 := Ext.trans hE34 hE51
  replace hE9 := Ext.trans hE9 hE51
  replace hE0 := Ext.trans hE0 hE51
  refine Seg.step rfl rfl (Yd.assign rfl) ?_
  refine Seg.nil ?_
  refine At.then_ ?_
  refine Cd.seq ?_
  refine Cd.seq ?_
  refine Cd.region ?_
  refine Seg.step rfl rfl (Yd.assign rfl) ?_
  refine Seg.nil ?_
  refine At.then_ ?_
  refine Cd.block ?_
  have hq : LotAt w51 (fun k => k < w.heap.size ∨ k = b51) b51 xs 0 := ⟨.inr rfl, _, hB51, ⟨ao, c, rfl, hl0, fun a ha => (hr0 a ha).ext hE0, hz0⟩, hlt0.off (by omega), fun p m c hv hm => .inl (hlt0 p m c hv hm)⟩
  have hMine : 0 < xs.length → ∃ g, ao36 = some ⟨g, 0, none⟩ ∧ w9.heap.size ≤ g ∧ g < w36.heap.size ∧ Mine w51 g xs.length := fun hpos => by
    obtain ⟨g, c', zs, he, hg, hB⟩ := own_bx hO36 hpos
    cases he
    exact ⟨g, rfl, hg, hM' _ _ _ rfl hpos, _, hB, fun j hj => ⟨_, by rw [List.getElem?_append_left (by rw [ints_length]; exact hj)]; exact ints_get hj⟩⟩
  clear hB51 hE51 hE43 hO36 hE34 hE9 hs0 hB34 hO34 hW36 hM hM'
  refine Cd.loop (σ := Nat) (fun s => [(0, .slice ao xs.length c), (1, .int .i64 n), (4, .bool false), (5, .slice ao36 xs.length c36), (6, .pointer (some ⟨b43, 0, none⟩)), (7, .pointer (some ⟨b51, 0, none⟩)), (8, .int .i64 s)])
    (fun s w' => s ≤ xs.length ∧ LotAt w' (fun x => w36.heap.size ≤ x ∧ x < w43.heap.size) b43 xs 0 ∧ LotAt w' (fun k => k < w.heap.size ∨ k = b51) b51 xs 0 ∧ Ext w w' ∧ (0 < xs.length → ∃ g, ao36 = some ⟨g, 0, none⟩ ∧ w9.heap.size ≤ g ∧ g < w36.heap.size ∧ Mine w' g xs.length)) (fun s => xs.length - s) 0
    (.cons rfl (.cons rfl (.cons rfl (.cons rfl (.cons rfl (.cons rfl (.cons rfl (.nil _)))))))) ⟨Nat.zero_le _, hL, hq, hE0, hMine⟩ ?_
  clear hL hq hE0 hMine
  intro i w0 ⟨hi, hL, hq, hE0, hMine⟩
  by_cases hlt : i < xs.length
  · obtain ⟨g, rfl, hg1, hg2, cs, hB, hcs⟩ := hMine (by omega)
    obtain ⟨z, hz⟩ := hcs i hlt
    have hlen : i < cs.length := (List.getElem?_eq_some_iff.1 hz).1
    refine Cd.seq ?_
    refine Cd.seq ?_
    refine Cd.region ?_
    refine Seg.step rfl rfl (Yd.move rfl) ?_
    refine Seg.step rfl rfl (Yd.move rfl) ?_
    refine Seg.step rfl rfl (Yd.lenS rfl rfl) ?_
    refine Seg.step rfl rfl (Yd.lss rfl rfl) ?_
    refine Seg.nil ?_
    refine At.then_ ?_
    refine Cd.condk rfl (fun h61 => ?_) (fun h61 => ?_)
    rotate_left 1
    · exfalso; omega
    rotate_right 1
    refine Cd.skip ?_
    refine At.then_ ?_
    refine Cd.seq ?_
    refine Cd.block ?_
    refine Cd.region ?_
    refine Seg.step rfl rfl (Yd.move rfl) ?_
    refine Seg.step rfl rfl (Yd.move rfl) ?_
    refine Seg.step rfl rfl (Yd.move rfl) ?_
    refine Seg.step rfl rfl (Yd.move rfl) ?_
    refine Seg.step rfl rfl (Yd.indexAddr1 rfl rfl rfl (NatOf.cast _) (by omega)) ?_
    refine Seg.step rfl rfl (Yd.load1 rfl rfl (hB.row i _ hz)) ?_
    refine Seg.step rfl rfl (Yd.xor rfl rfl) ?_
    refine Seg.step rfl rfl (Yd.indexAddr1 rfl rfl rfl (NatOf.cast _) (by omega)) ?_
    refine Seg.store1 rfl rfl rfl rfl rfl hB (by first | omega | simp) (fun w76 hW76 hB76 => ?_)
    clear hB
    replace hL := hL.wr hW76 (by omega)
    replace hq := hq.wr hW76 (by omega)
    replace hE0 := Ext.wr' hE0 hW76 (by omega)
    refine Seg.nil ?_
    refine At.blk ?_
    refine At.then_ ?_
    refine Cd.region ?_
    refine Seg.step rfl rfl (Yd.move rfl) ?_
    refine Seg.step rfl rfl (Yd.addI rfl rfl (by omega)) ?_
    refine Seg.step rfl rfl (Yd.assign rfl) ?_
    refine Seg.nil ?_
    exact At.round (i + 1) (.cons rfl (.cons rfl (.cons rfl (.cons rfl (.cons rfl (.cons rfl (.cons rfl (.nil _)))))))) ⟨by omega, hL, hq, hE0, fun _ => ⟨g, rfl, hg1, hg2, _, by assumption, fun j hj => mine_set hcs hj⟩⟩ (by show _ - _ < _ - _; omega)
  · refine Cd.seq ?_
    refine Cd.seq ?_
    refine Cd.region ?_
    refine Seg.step rfl rfl (Yd.move rfl) ?_
    refine Seg.step rfl rfl (Yd.move rfl) ?_
    refine Seg.step rfl rfl (Yd.lenS rfl rfl) ?_
    refine Seg.step rfl rfl (Yd.lss rfl rfl) ?_
    refine Seg.nil ?_
    refine At.then_ ?_
    refine Cd.condk rfl (fun h61 => ?_) (fun h61 => ?_)
    · exfalso; omega
    refine Cd.exit ?_
    refine At.then_exit ?_
    refine At.then_exit ?_
    refine At.blk_same ?_
    refine At.then_ ?_
    refine Cd.seq ?_
    refine Cd.seq ?_
    refine Cd.region ?_
    refine Seg.step rfl rfl (Yd.assign rfl) ?_
    refine Seg.nil ?_
    refine At.then_ ?_
    refine Cd.block ?_
    have hK : b43 < w43.heap.size := hL.1.2
    clear hMine h61 hlt hi
    by_cases hn1 : n < 1
    · refine Cd.loop (σ := Nat) (fun s => [(0, .slice ao xs.length c), (1, .int .i64 n), (4, .bool false), (6, .pointer (some ⟨b43, 0, none⟩)), (7, .pointer (some ⟨b51, 0, none⟩)), (9, .int .i64 s)])
        (fun s w' => s ≤ xs.length + 2 ∧ LotAt w' (fun x => w36.heap.size ≤ x ∧ x < w43.heap.size) b43 xs 0 ∧ LotAt w' (fun k => k < w.heap.size ∨ k = b51) b51 xs 0 ∧ Ext w w') (fun s => xs.length + 2 - s) 0
        (.cons rfl (.cons rfl (.cons rfl (.cons rfl (.cons rfl (.cons rfl (.nil _))))))) ⟨Nat.zero_le _, hL, hq, hE0⟩ ?_
      clear hL hq hE0
      intro i w0 ⟨hi, hL, hq, hE0⟩
      by_cases hlt : i < xs.length + 2
      · refine Cd.seq ?_
        refine Cd.seq ?_
        refine Cd.region ?_
        refine Seg.step rfl rfl (Yd.move rfl) ?_
        refine Seg.step rfl rfl (Yd.move rfl) ?_
        refine Seg.step rfl rfl (Yd.lenS rfl rfl) ?_
        refine Seg.step rfl rfl (Yd.addI rfl rfl (by omega)) ?_
        refine Seg.step rfl rfl (Yd.lss rfl rfl) ?_
        refine Seg.nil ?_
        refine At.then_ ?_
        refine Cd.condk rfl (fun h62 => ?_) (fun h62 => ?_)
        · refine Cd.skip ?_
          refine At.then_ ?_
          refine Cd.seq ?_
          refine Cd.block ?_
          refine Cd.seq ?_
          refine Cd.region ?_
          refine Seg.step rfl rfl (Yd.move rfl) ?_
          refine Seg.step rfl rfl (Yd.move rfl) ?_
          (refine Seg.call rfl rfl (own_of rfl) rfl (draw_neg _ _ hn1 _) ?_; rintro _ w72 ⟨rfl, hE72⟩)
          replace hL := hL.ext hE72
          replace hq := hq.ext hE72
          replace hE0 := Ext.trans hE0 hE72
          refine Seg.step rfl rfl (Yd.move rfl) ?_
          refine Seg.step rfl rfl (Yd.move rfl) ?_
          (refine Seg.call rfl rfl (own_of rfl) rfl (rdraw_neg _ _ hn1 _) ?_; rintro _ w75 ⟨rfl, hE75⟩)
          replace hE72 := Ext.trans hE72 hE75
          replace hL := hL.ext hE75
          replace hq := hq.ext hE75
          replace hE0 := Ext.trans hE0 hE75
          refine Seg.step rfl rfl (Yd.neq rfl rfl) ?_
          refine Seg.nil ?_
          refine At.then_ ?_
          refine Cd.condF rfl ?_
          refine Cd.skip ?_
          refine At.blk ?_
          refine At.then_ ?_
          refine Cd.region ?_
          refine Seg.step rfl rfl (Yd.move rfl) ?_
          refine Seg.step rfl rfl (Yd.addI rfl rfl (by omega)) ?_
          refine Seg.step rfl rfl (Yd.assign rfl) ?_
          refine Seg.nil ?_
          exact At.round (i + 1) (.cons rfl (.cons rfl (.cons rfl (.cons rfl (.cons rfl (.cons rfl (.nil _))))))) ⟨by omega, hL, hq, hE0⟩ (by show _ - _ < _ - _; omega)
        · exfalso; omega
      · refine Cd.seq ?_
        refine Cd.seq ?_
        refine Cd.region ?_
        refine Seg.step rfl rfl (Yd.move rfl) ?_
        refine Seg.step rfl rfl (Yd.move rfl) ?_
        refine Seg.step rfl rfl (Yd.lenS rfl rfl) ?_
        refine Seg.step rfl rfl (Yd.addI rfl rfl (by omega)) ?_
        refine Seg.step rfl rfl (Yd.lss rfl rfl) ?_
        refine Seg.nil ?_
        refine At.then_ ?_
        refine Cd.condk rfl (fun h62 => ?_) (fun h62 => ?_)
        · exfalso; omega
        · refine Cd.exit ?_
          refine At.then_exit ?_
          refine At.then_exit ?_
          refine At.blk_same ?_
          refine At.then_ ?_
          refine Cd.seq ?_
          refine Cd.region ?_
          refine Seg.step rfl rfl (Yd.assign rfl) ?_
          refine Seg.nil ?_
          refine At.then_ ?_
          refine Cd.ret ?_
          exact At.ret Try.results4 (.tmp rfl .nil) ⟨rfl, hE0⟩
    · refine Cd.loop (σ := Nat) (fun s => [(0, .slice ao xs.length c), (1, .int .i64 n), (4, .bool false), (6, .pointer (some ⟨b43, 0, none⟩)), (7, .pointer (some ⟨b51, 0, none⟩)), (9, .int .i64 s)])
        (fun s w' => s ≤ xs.length + 2 ∧ LotAt w' (fun x => w36.heap.size ≤ x ∧ x < w43.heap.size) b43 xs s ∧ LotAt w' (fun k => k < w.heap.size ∨ k = b51) b51 xs s ∧ Ext w w') (fun s => xs.length + 2 - s) 0
        (.cons rfl (.cons rfl (.cons rfl (.cons rfl (.cons rfl (.cons rfl (.nil _))))))) ⟨Nat.zero_le _, hL, hq, hE0⟩ ?_
      clear hL hq hE0
      intro i w0 ⟨hi, hL, hq, hE0⟩
      by_cases hlt : i < xs.length + 2
      · refine Cd.seq ?_
        refine Cd.seq ?_
        refine Cd.region ?_
        refine Seg.step rfl rfl (Yd.move rfl) ?_
        refine Seg.step rfl rfl (Yd.move rfl) ?_
        refine Seg.step rfl rfl (Yd.lenS rfl rfl) ?_
        refine Seg.step rfl rfl (Yd.addI rfl rfl (by omega)) ?_
        refine Seg.step rfl rfl (Yd.lss rfl rfl) ?_
        refine Seg.nil ?_
        refine At.then_ ?_
        refine Cd.condk rfl (fun h62 => ?_) (fun h62 => ?_)
        · refine Cd.skip ?_
          refine At.then_ ?_
          refine Cd.seq ?_
          refine Cd.block ?_
          refine Cd.seq ?_
          refine Cd.region ?_
          refine Seg.step rfl rfl (Yd.move rfl) ?_
          refine Seg.step rfl rfl (Yd.move rfl) ?_
          (refine Seg.call rfl rfl (own_of rfl) rfl (lot_pos _ _ xs i _ _ (by omega) hn (by omega) hL) ?_; rintro _ w72 ⟨rfl, hW72, hL'⟩; clear hL; have hL := hL'; clear hL')
          replace hq := hq.wr hW72 (by omega)
          replace hE0 := Ext.wr' hE0 hW72 (by omega)
          refine Seg.step rfl rfl (Yd.move rfl) ?_
          refine Seg.step rfl rfl (Yd.move rfl) ?_
          (refine Seg.call rfl rfl (own_of rfl) rfl (rlot_pos _ _ xs i _ _ (by omega) hn (by omega) hq) ?_; rintro _ w75 ⟨rfl, hW75, hq'⟩; clear hq; have hq := hq'; clear hq')
          replace hL := hL.wr hW75 (by omega)
          replace hE0 := Ext.wr' hE0 hW75 (by omega)
          refine Seg.step rfl rfl (Yd.neq rfl rfl) ?_
          refine Seg.nil ?_
          refine At.then_ ?_
          refine Cd.condk rfl (fun h79 => ?_) (fun h79 => ?_)
          · exfalso; omega
          · refine Cd.skip ?_
            refine At.blk ?_
            refine At.then_ ?_
            refine Cd.region ?_
            refine Seg.step rfl rfl (Yd.move rfl) ?_
            refine Seg.step rfl rfl (Yd.addI rfl rfl (by omega)) ?_
            refine Seg.step rfl rfl (Yd.assign rfl) ?_
            refine Seg.nil ?_
            exact At.round (i + 1) (.cons rfl (.cons rfl (.cons rfl (.cons rfl (.cons rfl (.cons rfl (.nil _))))))) ⟨by omega, hL, hq, hE0⟩ (by show _ - _ < _ - _; omega)
        · exfalso; omega
      · refine Cd.seq ?_
        refine Cd.seq ?_
        refine Cd.region ?_
        refine Seg.step rfl rfl (Yd.move rfl) ?_
        refine Seg.step rfl rfl (Yd.move rfl) ?_
        refine Seg.step rfl rfl (Yd.lenS rfl rfl) ?_
        refine Seg.step rfl rfl (Yd.addI rfl rfl (by omega)) ?_
        refine Seg.step rfl rfl (Yd.lss rfl rfl) ?_
        refine Seg.nil ?_
        refine At.then_ ?_
        refine Cd.condk rfl (fun h62 => ?_) (fun h62 => ?_)
        · exfalso; omega
        · refine Cd.exit ?_
          refine At.then_exit ?_
          refine At.then_exit ?_
          refine At.blk_same ?_
          refine At.then_ ?_
          refine Cd.seq ?_
          refine Cd.region ?_
          refine Seg.step rfl rfl (Yd.assign rfl) ?_
          refine Seg.nil ?_
          refine At.then_ ?_
          refine Cd.ret ?_
          exact At.ret Try.results4 (.tmp rfl .nil) ⟨rfl, hE0⟩
end Go.Proofs.Ytccppgpedlfjdaa
