/- Addresses put in order: the program's walk. -/
import Derived.Test.YtdomaooegpeneaaAdf
import Derived.Test.YtdomaooegpeneaaStd
import Derived.Test.YtdomaooegpeneaaWkj
import Derived.Test.YtdomaooegpeneaaWkn
namespace Go.Proofs.Ytdomaooegpeneaa
open Go Go.RowKit
theorem sort14 (xs : List El) (zs : List Value) (b N cap : Nat) (w : World) (hN : N = xs.length) (hN' : N ≤ 1000000) (hB : Bx w b (xs.flatMap cel ++ zs)) :
    Ret Try.prog 14 #[dataV b N cap, cmpV] w fun _ w' => ∃ Y, Bx w' b (Y.flatMap cel ++ zs) ∧ Wr b w w' ∧ Srtd key Y ∧ SameBy key xs Y := by
  refine Ret.body Try.func14 rfl Try.ntmps14 rfl ?_
  refine Cd.region ?_
  refine Seg.step rfl rfl (Yd.move rfl) ?_
  refine Seg.step rfl rfl (Yd.move rfl) ?_
  refine Seg.step rfl rfl (Yd.lenS rfl rfl) ?_
  refine Seg.step rfl rfl (Yd.move rfl) ?_
  (refine Seg.call rfl rfl (own_of rfl) rfl (stb_any xs zs b N cap _ _ hN hN' hB rfl) ?_; rintro _ w6 ⟨Y, hB, hW6, hY, hYs⟩)
  refine Seg.nil ?_
  exact At.fin Try.results14 .nil ⟨Y, hB, by assumption, hY, hYs⟩
def zeroA : Adr := ⟨0, 0, 0, 0, 0, 0, 0, 0, 0, 0, 0, 0, 0, 0, 0, 0, 0, 0⟩
def AdrsAt (w : World) (v : Value) (ads : List Adr) : Prop := Sl w 18 v ads.length (ads.flatMap Adr.cells)
/-- The first i members are filled in. -/
noncomputable def pl (ps : List El) (a : Adr) : El := (a, (placeOf ps a : Int))
noncomputable def fillN (ps : List El) (ads : List Adr) (i : Nat) : List El := (ads.take i).map (pl ps) ++ List.replicate (ads.length - i) (zeroA, 0)
theorem fill_len (ps : List El) (ads : List Adr) {i : Nat} (h : i ≤ ads.length) : (fillN ps ads i).length = ads.length := by
  simp [fillN]; omega
theorem set_at {E : Type} (A : List E) (m : Nat) (x z : E) {i : Nat} (h : i = A.length) : (A ++ List.replicate (m + 1) z).set i x = (A ++ [x]) ++ List.replicate m z := by
  subst h
  simp [List.set_append, List.replicate_succ]
theorem fill_set (ps : List El) {ads : List Adr} {i : Nat} {a : Adr} (h : ads[i]? = some a) : (fillN ps ads i).set i (pl ps a) = fillN ps ads (i + 1) := by
  obtain ⟨hi, he⟩ := List.getElem?_eq_some_iff.1 h
  unfold fillN
  rw [show ads.length - i = (ads.length - (i + 1)) + 1 by omega, set_at _ _ _ _ (by simp; omega), List.take_add_one, h]
  simp
def outN (Y : List El) (i : Nat) : List Adr := (Y.take i).map Prod.fst ++ List.replicate (Y.length - i) zeroA
theorem out_len (Y : List El) {i : Nat} (h : i ≤ Y.length) : (outN Y i).length = Y.length := by
  simp [outN]; omega
theorem out_set {Y : List El} {i : Nat} {y : El} (h : Y[i]? = some y) : (outN Y i).set i y.1 = outN Y (i + 1) := by
  obtain ⟨hi, he⟩ := List.getElem?_eq_some_iff.1 h
  unfold outN
  rw [show Y.length - i = (Y.length - (i + 1)) + 1 by omega, set_at _ _ _ _ (by simp; omega), List.take_add_one, h]
  simp
theorem adrK (a : Adr) : a.cells.length = 18 := rfl
theorem roomA {cur : List Adr} {zs : List Value} {i : Nat} {y : Adr} (hi : i < cur.length) : i * 18 + y.cells.toArray.toList.length ≤ (cur.flatMap Adr.cells ++ zs).length := by
  rw [List.length_append, flat_len adrK, show y.cells.toArray.toList.length = 18 from rfl, ← Nat.succ_mul]
  exact Nat.le_trans (Nat.mul_le_mul_right _ hi) (Nat.le_add_right _ _)
theorem cur_setA {cur : List Adr} {zs : List Value} {i b : Nat} {y : Adr} {w : World} (hi : i < cur.length) (h : Bx w b ((cur.flatMap Adr.cells ++ zs).take (i * 18) ++ (y.cells.toArray.toList ++ (cur.flatMap Adr.cells ++ zs).drop (i * 18 + y.cells.toArray.toList.length)))) :
    Bx w b ((cur.set i y).flatMap Adr.cells ++ zs) := by
  rw [← flat_set adrK hi]; exact h
theorem adrOne (a : Adr) : ∀ c ∈ a.cells.toArray.toList, c.oneCell' = true := by
  intro c hc
  simp only [Adr.cells, List.mem_cons, List.not_mem_nil, or_false] at hc
  rcases hc with rfl | rfl | rfl | rfl | rfl | rfl | rfl | rfl | rfl | rfl | rfl | rfl | rfl | rfl | rfl | rfl | rfl | rfl <;> rfl
theorem order9 (ps : List El) (ads : List Adr) (v u : Value) (w : World) (h : PfxAt w v ps) (hp : ∀ p ∈ ps, WfA p.1) (hl : ps.length ≤ 1000) (h' : AdrsAt w u ads) (ha : ∀ a ∈ ads, WfA a) (hl' : ads.length ≤ 1000) :
    Ret Try.prog 9 #[v, u] w fun r w' => (∃ Y : List El, AdrsAt w' r (Y.map Prod.fst) ∧ Srtd key Y ∧ SameBy key (ads.map fun a => (a, (placeOf ps a : Int))) Y) ∧ Ext w w' := by
  have hE0 := Ext.refl w
  obtain ⟨ao, c, rfl, hl0, hr0, hz0⟩ := h'
  refine Ret.body Try.func9 rfl Try.ntmps9 rfl ?_
  refine Cd.seq ?_
  refine Cd.region ?_
  refine Seg.step rfl rfl (Yd.assign rfl) ?_
  refine Seg.nil ?_
  refine At.then_ ?_
  refine Cd.seq ?_
  refine Cd.region ?_
  refine Seg.step rfl rfl (Yd.move rfl) ?_
  refine Seg.step rfl rfl (Yd.lenS rfl rfl) ?_
  (refine Seg.makeN rfl rfl rfl rfl (by kernel_rfl) rfl rfl rfl rfl ⟨by omega, by decide⟩ (fun w10 b10 hE10 hB10 hb10 => ?_); replace hB10 := Bx.reps (f := cel) (zeroA, 0) rfl hB10)
  refine Seg.step rfl rfl (Yd.assign rfl) ?_
  refine Seg.nil ?_
  refine At.then_ ?_
  refine Cd.seq ?_
  refine Cd.seq ?_
  refine Cd.region ?_
  refine Seg.step rfl rfl (Yd.move rfl) ?_
  refine Seg.step rfl rfl (Yd.lenS rfl rfl) ?_
  refine Seg.step rfl rfl (Yd.move rfl) ?_
  refine Seg.nil ?_
  refine At.then_ ?_
  refine Cd.block ?_
  have hB11 : Bx w10 b10 ((fillN ps ads 0).flatMap cel ++ []) := by simpa [fillN] using hB10
  clear hB10
  refine Cd.loop (σ := Nat) (fun i => [(0, v), (4, .slice none 0 0), (5, .slice (some ⟨b10, 0, none⟩) ads.length ads.length), (14, .slice ao ads.length c), (15, .int .i64 (ads.length : Int)), (16, .int .i64 (i : Int))])
    (fun i w' => i ≤ ads.length ∧ Ext w w' ∧ Bx w' b10 ((fillN ps ads i).flatMap cel ++ [])) (fun i => ads.length - i) 0 (.cons rfl (.cons rfl (.cons rfl (.cons rfl (.cons rfl (.cons rfl (.nil _))))))) ⟨Nat.zero_le _, by assumption, hB11⟩ ?_
  clear hB11
  rintro i w0 ⟨hi, hE0, hB⟩
  by_cases hlt : i < ads.length
  · obtain ⟨d, rfl⟩ : ∃ d, ao = some d := by
      cases ao with
      | none => have := hz0 rfl; omega
      | some d => exact ⟨d, rfl⟩
    obtain ⟨a, hai⟩ : ∃ a, ads[i]? = some a := ⟨_, List.getElem?_eq_getElem hlt⟩
    have haw := ha a (List.mem_of_getElem? hai)
    have hrow : Row w (Addr.add d (i * 18)) a.cells := flat_row (cel := Adr.cells) (zs := []) (fun _ => rfl) (by rw [List.append_nil]; exact hr0 d rfl) hai
    have hrow' := hrow.ext hE0
    have hset := fill_set ps hai
    have hln := fill_len ps ads hi
    have hln' : i < (fillN ps ads i).length := by omega
    refine Cd.seq ?_
    refine Cd.region ?_
    refine Seg.step rfl rfl (Yd.lss rfl rfl) ?_
    refine Seg.nil ?_
    refine At.then_ ?_
    refine Cd.seq ?_
    refine Cd.condk rfl (fun h17 => ?_) (fun h17 => ?_)
    · refine Cd.skip ?_
      refine At.then_ ?_
      refine Cd.seq ?_
      refine Cd.block ?_
      refine Cd.seq ?_
      refine Cd.region ?_
      refine Seg.step rfl rfl (Yd.move rfl) ?_
      refine Seg.step rfl rfl (Yd.indexAddr rfl rfl rfl (NatOf.cast _) (by omega)) ?_
      refine Seg.step rfl rfl (Yd.loadN rfl rfl rfl hrow') ?_
      refine Seg.alloc rfl rfl rfl (fun w28 b28 hE28 hB28 hb28 => ?_)
      have hlt28_0 := Nat.le_trans hE0.size hb28
      have hlt28_1 := Nat.lt_of_lt_of_le hB.lt hb28
      replace hE0 := Ext.trans hE0 hE28
      replace hB := hB.ext hE28
      replace hrow' := hrow'.ext hE28
      refine Seg.step rfl rfl (Yd.assign rfl) ?_
      refine Seg.storeN rfl rfl rfl rfl hB28 rfl (by first | assumption | exact List.all_eq_true.1 rfl) (fun w30 hW30 hB30 => ?_)
      clear hB28
      replace hE28 := Ext.wr' hE28 hW30 (by omega)
      replace hE0 := Ext.wr' hE0 hW30 (by omega)
      replace hB := hB.wr hW30 (by omega)
      refine Seg.nil ?_
      refine At.then_ ?_
      refine Cd.anyE (by kernel_rfl) (fun w33 hE33 => ?_)
      replace hW30 := Wr.trans hW30 (Ext.wr hE33 _)
      replace hB30 := hB30.ext hE33
      replace hE28 := Ext.trans hE28 hE33
      replace hE0 := Ext.trans hE0 hE33
      replace hB := hB.ext hE33
      refine SegA.pure 0 rfl (by kernel_rfl) (by kernel_rfl) (by kernel_rfl) rfl rfl (fun _ => Yd.move rfl) ?_
      refine SegA.pure 1 rfl (by kernel_rfl) (by kernel_rfl) (by kernel_rfl) rfl rfl (fun _ => Yd.move rfl) ?_
      refine SegA.pure 3 rfl (by kernel_rfl) (by kernel_rfl) (by kernel_rfl) rfl rfl (fun _ => Yd.move rfl) ?_
      refine SegA.held 8 ?_
      refine SegG.take 2 rfl (by kernel_rfl) (by kernel_rfl) (by kernel_rfl) (by kernel_rfl) (by kernel_rfl) rfl rfl (fun w' hw' => Yd.loadN rfl rfl rfl (hB30.ext hw').row) ?_
      refine SegG.take 4 rfl (by kernel_rfl) (by kernel_rfl) (by kernel_rfl) (by kernel_rfl) (by kernel_rfl) rfl rfl (fun w' hw' => Yd.loadN rfl rfl rfl (hB30.ext hw').row) ?_
      refine SegG.oneSeg (o := ⟨_, _, _, _, _, _⟩) 5 rfl (by kernel_rfl) ?_
      (refine Seg.call rfl rfl (own_of rfl) rfl (place6 ps a v _ (h.ext (by assumption)) hp haw hl) ?_; rintro _ w41 ⟨rfl, hE41⟩)
      replace hE33 := Ext.trans hE33 hE41
      replace hW30 := Wr.trans hW30 (Ext.wr hE41 _)
      replace hB30 := hB30.ext hE41
      replace hE28 := Ext.trans hE28 hE41
      replace hE0 := Ext.trans hE0 hE41
      replace hB := hB.ext hE41
      refine SegG.back rfl (by first | assumption | exact Ext.refl _) ?_
      refine SegG.take 6 rfl (by kernel_rfl) (by kernel_rfl) (by kernel_rfl) (by kernel_rfl) (by kernel_rfl) rfl rfl (fun w' hw' => Yd.buildT (cs := _ :: _ :: _ :: _ :: _ :: _ :: _ :: _ :: _ :: _ :: _ :: _ :: _ :: _ :: _ :: _ :: _ :: _ :: _ :: []) 19 rfl rfl rfl rfl rfl) ?_
      refine SegG.take 7 rfl (by kernel_rfl) (by kernel_rfl) (by kernel_rfl) (by kernel_rfl) (by kernel_rfl) rfl rfl (fun w' hw' => Yd.indexAddr rfl rfl rfl (NatOf.cast _) (by omega)) ?_
      refine SegG.oneSeg (o := ⟨_, _, _, _, _, _⟩) 8 rfl (by kernel_rfl) ?_
      (refine Seg.storeMid (a := (cel (pl ps a)).toArray) rfl rfl rfl rfl hB (room hln') (celOneA (pl ps a)) (fun w46 hW46 hB46 => ?_); replace hB := cur_set hln' hB46; clear hB46; rw [hset] at hB; have hE46 := Ext.wr' (by assumption : Ext w _) hW46 hb10)
      refine SegG.end_ rfl ?_
      refine SegA.done (by kernel_rfl) ?_
      refine At.blk ?_
      refine At.then_ ?_
      refine Cd.region ?_
      refine Seg.step rfl rfl (Yd.addI rfl rfl (by omega)) ?_
      refine Seg.step rfl rfl (Yd.move rfl) ?_
      refine Seg.nil ?_
      exact At.round (i + 1) (.cons rfl (.cons rfl (.cons rfl (.cons rfl (.cons rfl (.cons rfl (.nil _))))))) ⟨by omega, by assumption, hB⟩ (by omega)
    · exfalso; omega
  · have hie : i = ads.length := by omega
    subst hie
    have hfe : fillN ps ads ads.length = ads.map (pl ps) := by simp [fillN]
    rw [hfe] at hB
    have hml : ads.length = (ads.map (pl ps)).length := by simp
    refine Cd.seq ?_
    refine Cd.region ?_
    refine Seg.step rfl rfl (Yd.lss rfl rfl) ?_
    refine Seg.nil ?_
    refine At.then_ ?_
    refine Cd.seq ?_
    refine Cd.condk rfl (fun h17 => ?_) (fun h17 => ?_)
    · exfalso; omega
    refine Cd.exit ?_
    refine At.then_exit ?_
    refine At.then_exit ?_
    refine At.blk_same ?_
    refine At.then_ ?_
    refine Cd.seq ?_
    refine Cd.region ?_
    refine Seg.step rfl rfl (Yd.move rfl) ?_
    (refine Seg.call rfl rfl (own_of rfl) rfl (sort14 (ads.map (pl ps)) [] b10 ads.length ads.length _ hml (by omega) hB) ?_; rintro _ w27 ⟨Y, hB, hW27, hY, hYs⟩; have hE27 := Ext.wr' (by assumption : Ext w _) hW27 hb10; have hYl := hYs.len; rw [← hml] at hYl)
    refine Seg.nil ?_
    refine At.then_ ?_
    refine Cd.seq ?_
    refine Cd.region ?_
    refine Seg.step rfl rfl (Yd.move rfl) ?_
    refine Seg.step rfl rfl (Yd.lenS rfl rfl) ?_
    (refine Seg.makeN rfl rfl rfl rfl (by kernel_rfl) rfl rfl rfl rfl ⟨by omega, by decide⟩ (fun w34 b34 hE34 hB34 hb34 => ?_); replace hB34 := Bx.reps (f := Adr.cells) zeroA rfl hB34; have hne := Nat.lt_of_lt_of_le hB.lt hb34; replace hB := hB.ext hE34)
    refine Seg.step rfl rfl (Yd.assign rfl) ?_
    refine Seg.nil ?_
    refine At.then_ ?_
    refine Cd.seq ?_
    refine Cd.seq ?_
    refine Cd.region ?_
    refine Seg.step rfl rfl (Yd.move rfl) ?_
    refine Seg.step rfl rfl (Yd.lenS rfl rfl) ?_
    refine Seg.step rfl rfl (Yd.move rfl) ?_
    refine Seg.nil ?_
    refine At.then_ ?_
    refine Cd.block ?_
    have hEx : Ext w w34 := hE27.trans hE34
    have hb34w : w.heap.size ≤ b34 := Nat.le_trans hE27.size hb34
    have hB2 : Bx w34 b34 ((outN Y 0).flatMap Adr.cells ++ []) := by rw [hYl] at hB34; simpa [outN] using hB34
    clear hB34 hfe hW27
    refine Cd.loop (σ := Nat) (fun i => [(4, .slice none 0 0), (8, .slice (some ⟨b34, 0, none⟩) ads.length ads.length), (35, .slice (some ⟨b10, 0, none⟩) ads.length ads.length), (36, .int .i64 (ads.length : Int)), (37, .int .i64 (i : Int))])
      (fun i w' => i ≤ Y.length ∧ Ext w w' ∧ Bx w' b10 (Y.flatMap cel ++ []) ∧ Bx w' b34 ((outN Y i).flatMap Adr.cells ++ [])) (fun i => Y.length - i) 0 (.cons rfl (.cons rfl (.cons rfl (.cons rfl (.cons rfl (.nil _)))))) ⟨Nat.zero_le _, by assumption, hB, hB2⟩ ?_
    clear hB hB2
    rintro i w0 ⟨hi, hE0, hB, hB2⟩
    by_cases hlt : i < Y.length
    · obtain ⟨y, hyi⟩ : ∃ y, Y[i]? = some y := ⟨_, List.getElem?_eq_getElem hlt⟩
      have hrow := cur_row hB hyi
      have hset := out_set hyi
      have hln := out_len Y hi
      have hln' : i < (outN Y i).length := by omega
      refine Cd.seq ?_
      refine Cd.region ?_
      refine Seg.step rfl rfl (Yd.lss rfl rfl) ?_
      refine Seg.nil ?_
      refine At.then_ ?_
      refine Cd.seq ?_
      refine Cd.condk rfl (fun h41 => ?_) (fun h41 => ?_)
      · refine Cd.skip ?_
        refine At.then_ ?_
        refine Cd.seq ?_
        refine Cd.block ?_
        refine Cd.seq ?_
        refine Cd.region ?_
        refine Seg.step rfl rfl (Yd.move rfl) ?_
        refine Seg.step rfl rfl (Yd.indexAddr rfl rfl rfl (NatOf.cast _) (by omega)) ?_
        refine Seg.step rfl rfl (Yd.loadN rfl rfl rfl hrow) ?_
        refine Seg.alloc rfl rfl rfl (fun w52 b52 hE52 hB52 hb52 => ?_)
        have hlt52_0 := Nat.le_trans hE0.size hb52
        have hlt52_1 := Nat.lt_of_lt_of_le hB.lt hb52
        have hlt52_2 := Nat.lt_of_lt_of_le hB2.lt hb52
        replace hE0 := Ext.trans hE0 hE52
        replace hB := hB.ext hE52
        replace hB2 := hB2.ext hE52
        replace hrow := hrow.ext hE52
        refine Seg.step rfl rfl (Yd.assign rfl) ?_
        refine Seg.storeN rfl rfl rfl rfl hB52 rfl (by first | assumption | exact List.all_eq_true.1 rfl) (fun w54 hW54 hB54 => ?_)
        clear hB52
        replace hE52 := Ext.wr' hE52 hW54 (by omega)
        replace hE0 := Ext.wr' hE0 hW54 (by omega)
        replace hB := hB.wr hW54 (by omega)
        replace hB2 := hB2.wr hW54 (by omega)
        refine Seg.nil ?_
        refine At.then_ ?_
        refine Cd.region ?_
        refine Seg.step rfl rfl (Yd.move rfl) ?_
        refine Seg.step rfl rfl (Yd.move rfl) ?_
        refine Seg.step rfl rfl (Yd.fieldAddr rfl rfl) ?_
        refine Seg.step rfl rfl (Yd.loadN rfl rfl rfl (show Row _ (Addr.add ⟨b52, 0, none⟩ 0) y.1.cells from hB54.row.part 0 18)) ?_
        refine Seg.step rfl rfl (Yd.indexAddr rfl rfl rfl (NatOf.cast _) (by omega)) ?_
        (refine Seg.storeMid (a := y.1.cells.toArray) rfl rfl rfl rfl hB2 (roomA hln') (adrOne y.1) (fun w63 hW63 hB63 => ?_); replace hB2 := cur_setA hln' hB63; clear hB63; rw [hset] at hB2; have hE63 := Ext.wr' (by assumption : Ext w _) hW63 (by omega); replace hB := hB.wr hW63 (by omega))
        refine Seg.nil ?_
        refine At.blk ?_
        refine At.then_ ?_
        refine Cd.region ?_
        refine Seg.step rfl rfl (Yd.addI rfl rfl (by omega)) ?_
        refine Seg.step rfl rfl (Yd.move rfl) ?_
        refine Seg.nil ?_
        exact At.round (i + 1) (.cons rfl (.cons rfl (.cons rfl (.cons rfl (.cons rfl (.nil _)))))) ⟨by omega, by assumption, hB, hB2⟩ (by omega)
      · exfalso; omega
    · have hfin : AdrsAt w0 (.slice (some ⟨b34, 0, none⟩) ads.length ads.length) (Y.map Prod.fst) := by
        have ho : outN Y i = Y.map Prod.fst := by
          have : i = Y.length := by omega
          subst this; simp [outN]
        rw [ho, List.append_nil] at hB2
        have hn : (Y.map Prod.fst).length = ads.length := by simp [hYl]
        unfold AdrsAt
        rw [hn]
        exact hB2.sl (by rw [flat_len adrK, hn]) _
      refine Cd.seq ?_
      refine Cd.region ?_
      refine Seg.step rfl rfl (Yd.lss rfl rfl) ?_
      refine Seg.nil ?_
      refine At.then_ ?_
      refine Cd.seq ?_
      refine Cd.condk rfl (fun h41 => ?_) (fun h41 => ?_)
      · exfalso; omega
      · refine Cd.exit ?_
        refine At.then_exit ?_
        refine At.then_exit ?_
        refine At.blk_same ?_
        refine At.then_ ?_
        refine Cd.seq ?_
        refine Cd.region ?_
        refine Seg.step rfl rfl (Yd.move rfl) ?_
        refine Seg.step rfl rfl (Yd.assign rfl) ?_
        refine Seg.nil ?_
        refine At.then_ ?_
        refine Cd.ret ?_
        exact At.ret Try.results9 (.tmp rfl .nil) ⟨⟨Y, hfin, hY, hYs⟩, by assumption⟩
end Go.Proofs.Ytdomaooegpeneaa
