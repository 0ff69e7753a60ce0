/- Lists of texts, and of lines, compared. -/
import Derived.Test.YtbmgigbedmgfpaaTld
import Derived.Test.YtbmgigbedmgfpaaWkm
namespace Go.Proofs.Ytbmgigbedmgfpaa
open Go Go.RowKit
theorem take_same {α : Type} {xs ys : List α} {i : Nat} {a b : α} (hT : xs.take i = ys.take i) (ha : xs[i]? = some a) (hb : ys[i]? = some b) (h : a = b) : xs.take (i + 1) = ys.take (i + 1) := by
  rw [List.take_add_one, List.take_add_one, hT, ha, hb, h]
theorem not_same {α : Type} {xs ys : List α} {i : Nat} {a b : α} (ha : xs[i]? = some a) (hb : ys[i]? = some b) (h : ¬ a = b) : ¬ xs = ys := fun e => h (by subst e; rw [ha] at hb; exact Option.some.inj hb)
theorem all_same {α : Type} {xs ys : List α} {i : Nat} (hT : xs.take i = ys.take i) (h1 : i = xs.length) (h2 : xs.length = ys.length) : xs = ys := by
  rw [h1, List.take_length, h2, List.take_length] at hT; exact hT
theorem texts_any (xs ys : List (List UInt8)) (v0 v1 : Value) (w : World) (h0 : NameAt w v0 xs) (h1 : NameAt w v1 ys) (hl : xs.length ≤ 10000000) :
    Ret Try.prog 20 #[v0, v1] w fun v w' => v = .bool (decide (xs = ys)) ∧ Ext w w' := by
  have hE0 := Ext.refl w
  obtain ⟨ao, c, rfl, hl0, hr0, hz0⟩ := h0
  obtain ⟨ao', c', rfl, hl1, hr1, hz1⟩ := h1
  refine Ret.body Try.func20 rfl Try.ntmps20 rfl ?_
  by_cases hlm : xs.length = ys.length
  · refine Cd.seq ?_
    refine Cd.region ?_
    refine Seg.step rfl rfl (Yd.assign rfl) ?_
    refine Seg.nil ?_
    refine At.then_ ?_
    refine Cd.seq ?_
    refine Cd.seq ?_
    refine Cd.region ?_
    refine Seg.step rfl rfl (Yd.move rfl) ?_
    refine Seg.step rfl rfl (Yd.lenS rfl rfl) ?_
    refine Seg.step rfl rfl (Yd.move rfl) ?_
    refine Seg.step rfl rfl (Yd.lenS rfl rfl) ?_
    refine Seg.step rfl rfl (Yd.neq rfl rfl) ?_
    refine Seg.nil ?_
    refine At.then_ ?_
    refine Cd.condk rfl (fun h17 => ?_) (fun h17 => ?_)
    · exfalso; omega
    refine Cd.skip ?_
    refine At.then_ ?_
    refine Cd.seq ?_
    refine Cd.seq ?_
    refine Cd.region ?_
    refine Seg.step rfl rfl (Yd.assign rfl) ?_
    refine Seg.nil ?_
    refine At.then_ ?_
    refine Cd.block ?_
    refine Cd.loop (σ := Nat) (fun s => [(0, .slice ao xs.length c), (1, .slice ao' ys.length c'), (4, .bool false), (5, .int .i64 (s : Int))])
      (fun s w' => s ≤ xs.length ∧ xs.take s = ys.take s ∧ Ext w w') (fun s => xs.length - s) 0 (.cons rfl (.cons rfl (.cons rfl (.cons rfl (.nil _))))) ⟨Nat.zero_le _, rfl, by assumption⟩ ?_
    clear hE0
    intro i w0 ⟨hi, hT, hE0⟩
    by_cases hlt : i < xs.length
    · obtain ⟨a, rfl⟩ : ∃ a, ao = some a := by
        cases ao with
        | none => have := hz0 rfl; omega
        | some a => exact ⟨a, rfl⟩
      obtain ⟨a', rfl⟩ : ∃ a, ao' = some a := by
        cases ao' with
        | none => have := hz1 rfl; omega
        | some a => exact ⟨a, rfl⟩
      have hr0 := hr0 a rfl
      have hr1 := hr1 a' rfl
      obtain ⟨x, hx⟩ : ∃ x, xs[i]? = some x := ⟨_, List.getElem?_eq_getElem hlt⟩
      obtain ⟨y, hy⟩ : ∃ y, ys[i]? = some y := ⟨_, List.getElem?_eq_getElem (by omega)⟩
      have hxv : (strV xs)[i]? = some (.string ⟨x.toArray⟩) := by simp [strV, hx]
      have hyv : (strV ys)[i]? = some (.string ⟨y.toArray⟩) := by simp [strV, hy]
      by_cases he : x = y
      · refine Cd.seq ?_
        refine Cd.seq ?_
        refine Cd.region ?_
        refine Seg.step rfl rfl (Yd.move rfl) ?_
        refine Seg.step rfl rfl (Yd.move rfl) ?_
        refine Seg.step rfl rfl (Yd.lenS rfl rfl) ?_
        refine Seg.step rfl rfl (Yd.lss rfl rfl) ?_
        refine Seg.nil ?_
        refine At.then_ ?_
        refine Cd.condk rfl (fun h27 => ?_) (fun h27 => ?_)
        · refine Cd.skip ?_
          refine At.then_ ?_
          refine Cd.seq ?_
          refine Cd.block ?_
          refine Cd.seq ?_
          refine Cd.quiet (by kernel_rfl) (by kernel_rfl) ?_
          refine SegQ.step rfl rfl (fun w' hw' => Yd.move rfl) ?_
          refine SegQ.step rfl rfl (fun w' hw' => Yd.move rfl) ?_
          refine SegQ.step rfl rfl (fun w' hw' => Yd.indexAddr1 rfl rfl rfl (NatOf.cast _) (by omega)) ?_
          refine SegQ.step rfl rfl (fun w' hw' => Yd.load1 rfl rfl (((hr0.ext hE0).ext hw') _ _ hxv)) ?_
          refine SegQ.step rfl rfl (fun w' hw' => Yd.move rfl) ?_
          refine SegQ.step rfl rfl (fun w' hw' => Yd.move rfl) ?_
          refine SegQ.step rfl rfl (fun w' hw' => Yd.indexAddr1 rfl rfl rfl (NatOf.cast _) (by omega)) ?_
          refine SegQ.step rfl rfl (fun w' hw' => Yd.load1 rfl rfl (((hr1.ext hE0).ext hw') _ _ hyv)) ?_
          refine SegQ.step rfl rfl (fun w' hw' => Yd.neqS rfl rfl) ?_
          refine SegQ.nil fun w44 hE44 => ?_
          replace hE0 := Ext.trans hE0 hE44
          refine At.then_ ?_
          refine Cd.condk rfl (fun h46 => ?_) (fun h46 => ?_)
          · contradiction
          · refine Cd.skip ?_
            refine At.blk ?_
            refine At.then_ ?_
            refine Cd.region ?_
            refine Seg.step rfl rfl (Yd.move rfl) ?_
            refine Seg.step rfl rfl (Yd.addI rfl rfl (by omega)) ?_
            refine Seg.step rfl rfl (Yd.assign rfl) ?_
            refine Seg.nil ?_
            exact At.round (i + 1) (.cons rfl (.cons rfl (.cons rfl (.cons rfl (.nil _))))) ⟨by omega, take_same hT hx hy he, hE0⟩ (by show _ - _ < _ - _; omega)
        · exfalso; omega
      · refine Cd.seq ?_
        refine Cd.seq ?_
        refine Cd.region ?_
        refine Seg.step rfl rfl (Yd.move rfl) ?_
        refine Seg.step rfl rfl (Yd.move rfl) ?_
        refine Seg.step rfl rfl (Yd.lenS rfl rfl) ?_
        refine Seg.step rfl rfl (Yd.lss rfl rfl) ?_
        refine Seg.nil ?_
        refine At.then_ ?_
        refine Cd.condk rfl (fun h27 => ?_) (fun h27 => ?_)
        · refine Cd.skip ?_
          refine At.then_ ?_
          refine Cd.seq ?_
          refine Cd.block ?_
          refine Cd.seq ?_
          refine Cd.quiet (by kernel_rfl) (by kernel_rfl) ?_
          refine SegQ.step rfl rfl (fun w' hw' => Yd.move rfl) ?_
          refine SegQ.step rfl rfl (fun w' hw' => Yd.move rfl) ?_
          refine SegQ.step rfl rfl (fun w' hw' => Yd.indexAddr1 rfl rfl rfl (NatOf.cast _) (by omega)) ?_
          refine SegQ.step rfl rfl (fun w' hw' => Yd.load1 rfl rfl (((hr0.ext hE0).ext hw') _ _ hxv)) ?_
          refine SegQ.step rfl rfl (fun w' hw' => Yd.move rfl) ?_
          refine SegQ.step rfl rfl (fun w' hw' => Yd.move rfl) ?_
          refine SegQ.step rfl rfl (fun w' hw' => Yd.indexAddr1 rfl rfl rfl (NatOf.cast _) (by omega)) ?_
          refine SegQ.step rfl rfl (fun w' hw' => Yd.load1 rfl rfl (((hr1.ext hE0).ext hw') _ _ hyv)) ?_
          refine SegQ.step rfl rfl (fun w' hw' => Yd.neqS rfl rfl) ?_
          refine SegQ.nil fun w44 hE44 => ?_
          replace hE0 := Ext.trans hE0 hE44
          refine At.then_ ?_
          refine Cd.condk rfl (fun h46 => ?_) (fun h46 => ?_)
          · refine Cd.seq ?_
            refine Cd.region ?_
            refine Seg.step rfl rfl (Yd.assign rfl) ?_
            refine Seg.nil ?_
            refine At.then_ ?_
            refine Cd.ret ?_
            refine At.blk_ret ?_
            refine At.then_ret ?_
            refine At.then_ret ?_
            refine At.blk_ret ?_
            refine At.then_ret ?_
            exact At.ret Try.results20 (.tmp rfl .nil) ⟨bF (not_same hx hy he), hE0⟩
          · contradiction
        · exfalso; omega
    · refine Cd.seq ?_
      refine Cd.seq ?_
      refine Cd.region ?_
      refine Seg.step rfl rfl (Yd.move rfl) ?_
      refine Seg.step rfl rfl (Yd.move rfl) ?_
      refine Seg.step rfl rfl (Yd.lenS rfl rfl) ?_
      refine Seg.step rfl rfl (Yd.lss rfl rfl) ?_
      refine Seg.nil ?_
      refine At.then_ ?_
      refine Cd.condk rfl (fun h27 => ?_) (fun h27 => ?_)
      · exfalso; omega
      · refine Cd.exit ?_
        refine At.then_exit ?_
        refine At.then_exit ?_
        refine At.blk_same ?_
        refine At.then_ ?_
        refine Cd.seq ?_
        refine Cd.region ?_
        refine Seg.step rfl rfl (Yd.assign rfl) ?_
        refine Seg.nil ?_
        refine At.then_ ?_
        refine Cd.ret ?_
        exact At.ret Try.results20 (.tmp rfl .nil) ⟨bT (all_same hT (by omega) hlm), hE0⟩
  · refine Cd.seq ?_
    refine Cd.region ?_
    refine Seg.step rfl rfl (Yd.assign rfl) ?_
    refine Seg.nil ?_
    refine At.then_ ?_
    refine Cd.seq ?_
    refine Cd.seq ?_
    refine Cd.region ?_
    refine Seg.step rfl rfl (Yd.move rfl) ?_
    refine Seg.step rfl rfl (Yd.lenS rfl rfl) ?_
    refine Seg.step rfl rfl (Yd.move rfl) ?_
    refine Seg.step rfl rfl (Yd.lenS rfl rfl) ?_
    refine Seg.step rfl rfl (Yd.neq rfl rfl) ?_
    refine Seg.nil ?_
    refine At.then_ ?_
    refine Cd.condk rfl (fun h17 => ?_) (fun h17 => ?_)
    · refine Cd.seq ?_
      refine Cd.region ?_
      refine Seg.step rfl rfl (Yd.assign rfl) ?_
      refine Seg.nil ?_
      refine At.then_ ?_
      refine Cd.ret ?_
      refine At.then_ret ?_
      exact At.ret Try.results20 (.tmp rfl .nil) ⟨bF (fun h => hlm (congrArg _ h)), by assumption⟩
    · exfalso; omega
def LnAt (w : World) (v : Value) (X : List Ln) : Prop := Sl w 2 v X.length (X.flatMap lnV) ∧ ∀ x ∈ X, NameAt w x.2.1 x.2.2 ∧ x.2.2.length ≤ 1000000
theorem LnAt.ext {w w' : World} {v : Value} {X : List Ln} (h : LnAt w v X) (hE : Ext w w') : LnAt w' v X := ⟨h.1.ext hE, fun x hx => ⟨(h.2 x hx).1.ext hE, (h.2 x hx).2⟩⟩
theorem lnD_take {X : List Ln} {i : Nat} {x : Ln} (h : X[i]? = some x) : (X.map lnD)[i]? = some (x.1, x.2.2) := by simp [h, lnD]
theorem same_any (X Y : List Ln) (v0 v1 : Value) (w : World) (h0 : LnAt w v0 X) (h1 : LnAt w v1 Y) (hl : X.length ≤ 10000000) :
    Ret Try.prog 9 #[v0, v1] w fun v w' => v = .bool (decide (X.map lnD = Y.map lnD)) ∧ Ext w w' := by
  have hE0 := Ext.refl w
  obtain ⟨⟨ao, c, rfl, hl0, hr0, hz0⟩, hn0⟩ := h0
  obtain ⟨⟨ao', c', rfl, hl1, hr1, hz1⟩, hn1⟩ := h1
  refine Ret.body Try.func9 rfl Try.ntmps9 rfl ?_
  by_cases hlm : X.length = Y.length
  · refine Cd.seq ?_
    refine Cd.region ?_
    refine Seg.step rfl rfl (Yd.assign rfl) ?_
    refine Seg.nil ?_
    refine At.then_ ?_
    refine Cd.seq ?_
    refine Cd.seq ?_
    refine Cd.region ?_
    refine Seg.step rfl rfl (Yd.move rfl) ?_
    refine Seg.step rfl rfl (Yd.lenS rfl rfl) ?_
    refine Seg.step rfl rfl (Yd.move rfl) ?_
    refine Seg.step rfl rfl (Yd.lenS rfl rfl) ?_
    refine Seg.step rfl rfl (Yd.neq rfl rfl) ?_
    refine Seg.nil ?_
    refine At.then_ ?_
    refine Cd.condk rfl (fun h17 => ?_) (fun h17 => ?_)
    · exfalso; omega
    refine Cd.skip ?_
    refine At.then_ ?_
    refine Cd.seq ?_
    refine Cd.seq ?_
    refine Cd.region ?_
    refine Seg.step rfl rfl (Yd.assign rfl) ?_
    refine Seg.nil ?_
    refine At.then_ ?_
    refine Cd.block ?_
    refine Cd.loop (σ := Nat) (fun s => [(0, .slice ao X.length c), (1, .slice ao' Y.length c'), (4, .bool false), (5, .int .i64 (s : Int))])
      (fun s w' => s ≤ X.length ∧ (X.map lnD).take s = (Y.map lnD).take s ∧ Ext w w') (fun s => X.length - s) 0 (.cons rfl (.cons rfl (.cons rfl (.cons rfl (.nil _))))) ⟨Nat.zero_le _, rfl, by assumption⟩ ?_
    clear hE0
    intro i w0 ⟨hi, hT, hE0⟩
    by_cases hlt : i < X.length
    · obtain ⟨a, rfl⟩ : ∃ a, ao = some a := by
        cases ao with
        | none => have := hz0 rfl; omega
        | some a => exact ⟨a, rfl⟩
      obtain ⟨a', rfl⟩ : ∃ a, ao' = some a := by
        cases ao' with
        | none => have := hz1 rfl; omega
        | some a => exact ⟨a, rfl⟩
      have hr0 := hr0 a rfl
      have hr1 := hr1 a' rfl
      obtain ⟨x, hx⟩ : ∃ x, X[i]? = some x := ⟨_, List.getElem?_eq_getElem hlt⟩
      obtain ⟨y, hy⟩ : ∃ y, Y[i]? = some y := ⟨_, List.getElem?_eq_getElem (by omega)⟩
      have hxr : Row w0 (Addr.add a (i * 2)) (lnV x) := (flat_row (cel := lnV) (zs := []) lnV_len (by simpa using hr0) hx).ext hE0
      have hyr : Row w0 (Addr.add a' (i * 2)) (lnV y) := (flat_row (cel := lnV) (zs := []) lnV_len (by simpa using hr1) hy).ext hE0
      obtain ⟨n, v, fs⟩ := x
      obtain ⟨m, u, gs⟩ := y
      obtain ⟨hnx, hlx⟩ := hn0 _ (List.mem_of_getElem? hx)
      obtain ⟨hny, hly⟩ := hn1 _ (List.mem_of_getElem? hy)
      simp only at hnx hlx hny hly
      have hD1 := lnD_take hx
      have hD2 := lnD_take hy
      by_cases h1 : n = m
      · by_cases h2 : fs = gs
        · have hd : decide (fs = gs) = true := decide_eq_true h2
          refine Cd.seq ?_
          refine Cd.seq ?_
          refine Cd.region ?_
          refine Seg.step rfl rfl (Yd.move rfl) ?_
          refine Seg.step rfl rfl (Yd.move rfl) ?_
          refine Seg.step rfl rfl (Yd.lenS rfl rfl) ?_
          refine Seg.step rfl rfl (Yd.lss rfl rfl) ?_
          refine Seg.nil ?_
          refine At.then_ ?_
          refine Cd.condk rfl (fun h27 => ?_) (fun h27 => ?_)
          · refine Cd.skip ?_
            refine At.then_ ?_
            refine Cd.seq ?_
            refine Cd.block ?_
            refine Cd.seq ?_
            refine Cd.anyE (by kernel_rfl) (fun w34 hE34 => ?_)
            replace hE0 := Ext.trans hE0 hE34
            replace hxr := hxr.ext hE34
            replace hyr := hyr.ext hE34
            refine SegA.pure 0 rfl (by kernel_rfl) (by kernel_rfl) (by kernel_rfl) rfl rfl (fun _ => Yd.move rfl) ?_
            refine SegA.pure 1 rfl (by kernel_rfl) (by kernel_rfl) (by kernel_rfl) rfl rfl (fun _ => Yd.move rfl) ?_
            refine SegA.pure 2 rfl (by kernel_rfl) (by kernel_rfl) (by kernel_rfl) rfl rfl (fun _ => Yd.indexAddr rfl rfl rfl (NatOf.cast _) (by omega)) ?_
            refine SegA.pure 3 rfl (by kernel_rfl) (by kernel_rfl) (by kernel_rfl) rfl rfl (fun _ => Yd.fieldAddr rfl rfl) ?_
            refine SegA.pure 5 rfl (by kernel_rfl) (by kernel_rfl) (by kernel_rfl) rfl rfl (fun _ => Yd.move rfl) ?_
            refine SegA.pure 6 rfl (by kernel_rfl) (by kernel_rfl) (by kernel_rfl) rfl rfl (fun _ => Yd.move rfl) ?_
            refine SegA.pure 7 rfl (by kernel_rfl) (by kernel_rfl) (by kernel_rfl) rfl rfl (fun _ => Yd.indexAddr rfl rfl rfl (NatOf.cast _) (by omega)) ?_
            refine SegA.pure 8 rfl (by kernel_rfl) (by kernel_rfl) (by kernel_rfl) rfl rfl (fun _ => Yd.fieldAddr rfl rfl) ?_
            refine SegA.held 25 ?_
            refine SegG.take 4 rfl (by kernel_rfl) (by kernel_rfl) (by kernel_rfl) (by kernel_rfl) (by kernel_rfl) rfl rfl (fun w' hw' => Yd.load1 rfl rfl ((hxr.ext hw') _ _ rfl)) ?_
            refine SegG.take 9 rfl (by kernel_rfl) (by kernel_rfl) (by kernel_rfl) (by kernel_rfl) (by kernel_rfl) rfl rfl (fun w' hw' => Yd.load1 rfl rfl ((hyr.ext hw') _ _ rfl)) ?_
            refine SegG.take 10 rfl (by kernel_rfl) (by kernel_rfl) (by kernel_rfl) (by kernel_rfl) (by kernel_rfl) rfl rfl (fun w' hw' => Yd.neq rfl rfl) ?_
            refine SegG.take 11 rfl (by kernel_rfl) (by kernel_rfl) (by kernel_rfl) (by kernel_rfl) (by kernel_rfl) rfl rfl (fun w' hw' => Yd.move rfl) ?_
            refine SegG.gsplitp 12 rfl rfl rfl (fun h48 => ?_) (fun h48 => ?_)
            · exfalso; omega
            · refine SegG.take 12 rfl (by kernel_rfl) (by kernel_rfl) (by kernel_rfl) (by kernel_rfl) (by kernel_rfl) rfl rfl (fun w' hw' => Yd.move rfl) ?_
              refine SegG.take 13 rfl (by kernel_rfl) (by kernel_rfl) (by kernel_rfl) (by kernel_rfl) (by kernel_rfl) rfl rfl (fun w' hw' => Yd.move rfl) ?_
              refine SegG.take 14 rfl (by kernel_rfl) (by kernel_rfl) (by kernel_rfl) (by kernel_rfl) (by kernel_rfl) rfl rfl (fun w' hw' => Yd.indexAddr rfl rfl rfl (NatOf.cast _) (by omega)) ?_
              refine SegG.take 15 rfl (by kernel_rfl) (by kernel_rfl) (by kernel_rfl) (by kernel_rfl) (by kernel_rfl) rfl rfl (fun w' hw' => Yd.fieldAddr rfl rfl) ?_
              refine SegG.take 16 rfl (by kernel_rfl) (by kernel_rfl) (by kernel_rfl) (by kernel_rfl) (by kernel_rfl) rfl rfl (fun w' hw' => Yd.load1 rfl rfl ((hxr.ext hw') _ _ rfl)) ?_
              refine SegG.take 17 rfl (by kernel_rfl) (by kernel_rfl) (by kernel_rfl) (by kernel_rfl) (by kernel_rfl) rfl rfl (fun w' hw' => Yd.move rfl) ?_
              refine SegG.take 18 rfl (by kernel_rfl) (by kernel_rfl) (by kernel_rfl) (by kernel_rfl) (by kernel_rfl) rfl rfl (fun w' hw' => Yd.move rfl) ?_
              refine SegG.take 19 rfl (by kernel_rfl) (by kernel_rfl) (by kernel_rfl) (by kernel_rfl) (by kernel_rfl) rfl rfl (fun w' hw' => Yd.indexAddr rfl rfl rfl (NatOf.cast _) (by omega)) ?_
              refine SegG.take 20 rfl (by kernel_rfl) (by kernel_rfl) (by kernel_rfl) (by kernel_rfl) (by kernel_rfl) rfl rfl (fun w' hw' => Yd.fieldAddr rfl rfl) ?_
              refine SegG.take 21 rfl (by kernel_rfl) (by kernel_rfl) (by kernel_rfl) (by kernel_rfl) (by kernel_rfl) rfl rfl (fun w' hw' => Yd.load1 rfl rfl ((hyr.ext hw') _ _ rfl)) ?_
              refine SegG.oneSeg (o := ⟨_, _, _, _, _, _⟩) 22 rfl (by kernel_rfl) ?_
              (refine Seg.call rfl rfl (own_of rfl) rfl (texts_any fs gs v u _ (hnx.ext hE0) (hny.ext hE0) (by omega)) ?_; rw [hd]; rintro _ w61 ⟨rfl, hE61⟩)
              replace hE34 := Ext.trans hE34 hE61
              replace hE0 := Ext.trans hE0 hE61
              replace hxr := hxr.ext hE61
              replace hyr := hyr.ext hE61
              refine SegG.back rfl (by first | assumption | exact Ext.refl _) ?_
              refine SegG.take 23 rfl (by kernel_rfl) (by kernel_rfl) (by kernel_rfl) (by kernel_rfl) (by kernel_rfl) rfl rfl (fun w' hw' => Yd.not rfl) ?_
              refine SegG.take 24 rfl (by kernel_rfl) (by kernel_rfl) (by kernel_rfl) (by kernel_rfl) (by kernel_rfl) rfl rfl (fun w' hw' => Yd.pickF rfl rfl) ?_
              refine SegG.done (by kernel_rfl) ?_
              refine At.then_ ?_
              refine Cd.condF rfl ?_
              refine Cd.skip ?_
              refine At.blk ?_
              refine At.then_ ?_
              refine Cd.region ?_
              refine Seg.step rfl rfl (Yd.move rfl) ?_
              refine Seg.step rfl rfl (Yd.addI rfl rfl (by omega)) ?_
              refine Seg.step rfl rfl (Yd.assign rfl) ?_
              refine Seg.nil ?_
              exact At.round (i + 1) (.cons rfl (.cons rfl (.cons rfl (.cons rfl (.nil _))))) ⟨by omega, take_same hT hD1 hD2 (by rw [h1, h2]), hE0⟩ (by show _ - _ < _ - _; omega)
          · exfalso; omega
        · have hd : decide (fs = gs) = false := decide_eq_false h2
          refine Cd.seq ?_
          refine Cd.seq ?_
          refine Cd.region ?_
          refine Seg.step rfl rfl (Yd.move rfl) ?_
          refine Seg.step rfl rfl (Yd.move rfl) ?_
          refine Seg.step rfl rfl (Yd.lenS rfl rfl) ?_
          refine Seg.step rfl rfl (Yd.lss rfl rfl) ?_
          refine Seg.nil ?_
          refine At.then_ ?_
          refine Cd.condk rfl (fun h27 => ?_) (fun h27 => ?_)
          · refine Cd.skip ?_
            refine At.then_ ?_
            refine Cd.seq ?_
            refine Cd.block ?_
            refine Cd.seq ?_
            refine Cd.anyE (by kernel_rfl) (fun w34 hE34 => ?_)
            replace hE0 := Ext.trans hE0 hE34
            replace hxr := hxr.ext hE34
            replace hyr := hyr.ext hE34
            refine SegA.pure 0 rfl (by kernel_rfl) (by kernel_rfl) (by kernel_rfl) rfl rfl (fun _ => Yd.move rfl) ?_
            refine SegA.pure 1 rfl (by kernel_rfl) (by kernel_rfl) (by kernel_rfl) rfl rfl (fun _ => Yd.move rfl) ?_
            refine SegA.pure 2 rfl (by kernel_rfl) (by kernel_rfl) (by kernel_rfl) rfl rfl (fun _ => Yd.indexAddr rfl rfl rfl (NatOf.cast _) (by omega)) ?_
            refine SegA.pure 3 rfl (by kernel_rfl) (by kernel_rfl) (by kernel_rfl) rfl rfl (fun _ => Yd.fieldAddr rfl rfl) ?_
            refine SegA.pure 5 rfl (by kernel_rfl) (by kernel_rfl) (by kernel_rfl) rfl rfl (fun _ => Yd.move rfl) ?_
            refine SegA.pure 6 rfl (by kernel_rfl) (by kernel_rfl) (by kernel_rfl) rfl rfl (fun _ => Yd.move rfl) ?_
            refine SegA.pure 7 rfl (by kernel_rfl) (by kernel_rfl) (by kernel_rfl) rfl rfl (fun _ => Yd.indexAddr rfl rfl rfl (NatOf.cast _) (by omega)) ?_
            refine SegA.pure 8 rfl (by kernel_rfl) (by kernel_rfl) (by kernel_rfl) rfl rfl (fun _ => Yd.fieldAddr rfl rfl) ?_
            refine SegA.held 25 ?_
            refine SegG.take 4 rfl (by kernel_rfl) (by kernel_rfl) (by kernel_rfl) (by kernel_rfl) (by kernel_rfl) rfl rfl (fun w' hw' => Yd.load1 rfl rfl ((hxr.ext hw') _ _ rfl)) ?_
            refine SegG.take 9 rfl (by kernel_rfl) (by kernel_rfl) (by kernel_rfl) (by kernel_rfl) (by kernel_rfl) rfl rfl (fun w' hw' => Yd.load1 rfl rfl ((hyr.ext hw') _ _ rfl)) ?_
            refine SegG.take 10 rfl (by kernel_rfl) (by kernel_rfl) (by kernel_rfl) (by kernel_rfl) (by kernel_rfl) rfl rfl (fun w' hw' => Yd.neq rfl rfl) ?_
            refine SegG.take 11 rfl (by kernel_rfl) (by kernel_rfl) (by kernel_rfl) (by kernel_rfl) (by kernel_rfl) rfl rfl (fun w' hw' => Yd.move rfl) ?_
            refine SegG.gsplitp 12 rfl rfl rfl (fun h48 => ?_) (fun h48 => ?_)
            · exfalso; omega
            · refine SegG.take 12 rfl (by kernel_rfl) (by kernel_rfl) (by kernel_rfl) (by kernel_rfl) (by kernel_rfl) rfl rfl (fun w' hw' => Yd.move rfl) ?_
              refine SegG.take 13 rfl (by kernel_rfl) (by kernel_rfl) (by kernel_rfl) (by kernel_rfl) (by kernel_rfl) rfl rfl (fun w' hw' => Yd.move rfl) ?_
              refine SegG.take 14 rfl (by kernel_rfl) (by kernel_rfl) (by kernel_rfl) (by kernel_rfl) (by kernel_rfl) rfl rfl (fun w' hw' => Yd.indexAddr rfl rfl rfl (NatOf.cast _) (by omega)) ?_
              refine SegG.take 15 rfl (by kernel_rfl) (by kernel_rfl) (by kernel_rfl) (by kernel_rfl) (by kernel_rfl) rfl rfl (fun w' hw' => Yd.fieldAddr rfl rfl) ?_
              refine SegG.take 16 rfl (by kernel_rfl) (by kernel_rfl) (by kernel_rfl) (by kernel_rfl) (by kernel_rfl) rfl rfl (fun w' hw' => Yd.load1 rfl rfl ((hxr.ext hw') _ _ rfl)) ?_
              refine SegG.take 17 rfl (by kernel_rfl) (by kernel_rfl) (by kernel_rfl) (by kernel_rfl) (by kernel_rfl) rfl rfl (fun w' hw' => Yd.move rfl) ?_
              refine SegG.take 18 rfl (by kernel_rfl) (by kernel_rfl) (by kernel_rfl) (by kernel_rfl) (by kernel_rfl) rfl rfl (fun w' hw' => Yd.move rfl) ?_
              refine SegG.take 19 rfl (by kernel_rfl) (by kernel_rfl) (by kernel_rfl) (by kernel_rfl) (by kernel_rfl) rfl rfl (fun w' hw' => Yd.indexAddr rfl rfl rfl (NatOf.cast _) (by omega)) ?_
              refine SegG.take 20 rfl (by kernel_rfl) (by kernel_rfl) (by kernel_rfl) (by kernel_rfl) (by kernel_rfl) rfl rfl (fun w' hw' => Yd.fieldAddr rfl rfl) ?_
              refine SegG.take 21 rfl (by kernel_rfl) (by kernel_rfl) (by kernel_rfl) (by kernel_rfl) (by kernel_rfl) rfl rfl (fun w' hw' => Yd.load1 rfl rfl ((hyr.ext hw') _ _ rfl)) ?_
              refine SegG.oneSeg (o := ⟨_, _, _, _, _, _⟩) 22 rfl (by kernel_rfl) ?_
              (refine Seg.call rfl rfl (own_of rfl) rfl (texts_any fs gs v u _ (hnx.ext hE0) (hny.ext hE0) (by omega)) ?_; rw [hd]; rintro _ w61 ⟨rfl, hE61⟩)
              replace hE34 := Ext.trans hE34 hE61
              replace hE0 := Ext.trans hE0 hE61
              replace hxr := hxr.ext hE61
              replace hyr := hyr.ext hE61
              refine SegG.back rfl (by first | assumption | exact Ext.refl _) ?_
              refine SegG.take 23 rfl (by kernel_rfl) (by kernel_rfl) (by kernel_rfl) (by kernel_rfl) (by kernel_rfl) rfl rfl (fun w' hw' => Yd.not rfl) ?_
              refine SegG.take 24 rfl (by kernel_rfl) (by kernel_rfl) (by kernel_rfl) (by kernel_rfl) (by kernel_rfl) rfl rfl (fun w' hw' => Yd.pickF rfl rfl) ?_
              refine SegG.done (by kernel_rfl) ?_
              refine At.then_ ?_
              refine Cd.condT rfl ?_
              refine Cd.seq ?_
              refine Cd.region ?_
              refine Seg.step rfl rfl (Yd.assign rfl) ?_
              refine Seg.nil ?_
              refine At.then_ ?_
              refine Cd.ret ?_
              refine At.blk_ret ?_
              refine At.then_ret ?_
              refine At.then_ret ?_
              refine At.blk_ret ?_
              refine At.then_ret ?_
              exact At.ret Try.results9 (.tmp rfl .nil) ⟨bF (not_same hD1 hD2 (fun h => h2 (congrArg Prod.snd h))), hE0⟩
          · exfalso; omega
      · refine Cd.seq ?_
        refine Cd.seq ?_
        refine Cd.region ?_
        refine Seg.step rfl rfl (Yd.move rfl) ?_
        refine Seg.step rfl rfl (Yd.move rfl) ?_
        refine Seg.step rfl rfl (Yd.lenS rfl rfl) ?_
        refine Seg.step rfl rfl (Yd.lss rfl rfl) ?_
        refine Seg.nil ?_
        refine At.then_ ?_
        refine Cd.condk rfl (fun h27 => ?_) (fun h27 => ?_)
        · refine Cd.skip ?_
          refine At.then_ ?_
          refine Cd.seq ?_
          refine Cd.block ?_
          refine Cd.seq ?_
          refine Cd.anyE (by kernel_rfl) (fun w34 hE34 => ?_)
          replace hE0 := Ext.trans hE0 hE34
          replace hxr := hxr.ext hE34
          replace hyr := hyr.ext hE34
          refine SegA.pure 0 rfl (by kernel_rfl) (by kernel_rfl) (by kernel_rfl) rfl rfl (fun _ => Yd.move rfl) ?_
          refine SegA.pure 1 rfl (by kernel_rfl) (by kernel_rfl) (by kernel_rfl) rfl rfl (fun _ => Yd.move rfl) ?_
          refine SegA.pure 2 rfl (by kernel_rfl) (by kernel_rfl) (by kernel_rfl) rfl rfl (fun _ => Yd.indexAddr rfl rfl rfl (NatOf.cast _) (by omega)) ?_
          refine SegA.pure 3 rfl (by kernel_rfl) (by kernel_rfl) (by kernel_rfl) rfl rfl (fun _ => Yd.fieldAddr rfl rfl) ?_
          refine SegA.pure 5 rfl (by kernel_rfl) (by kernel_rfl) (by kernel_rfl) rfl rfl (fun _ => Yd.move rfl) ?_
          refine SegA.pure 6 rfl (by kernel_rfl) (by kernel_rfl) (by kernel_rfl) rfl rfl (fun _ => Yd.move rfl) ?_
          refine SegA.pure 7 rfl (by kernel_rfl) (by kernel_rfl) (by kernel_rfl) rfl rfl (fun _ => Yd.indexAddr rfl rfl rfl (NatOf.cast _) (by omega)) ?_
          refine SegA.pure 8 rfl (by kernel_rfl) (by kernel_rfl) (by kernel_rfl) rfl rfl (fun _ => Yd.fieldAddr rfl rfl) ?_
          refine SegA.held 25 ?_
          refine SegG.take 4 rfl (by kernel_rfl) (by kernel_rfl) (by kernel_rfl) (by kernel_rfl) (by kernel_rfl) rfl rfl (fun w' hw' => Yd.load1 rfl rfl ((hxr.ext hw') _ _ rfl)) ?_
          refine SegG.take 9 rfl (by kernel_rfl) (by kernel_rfl) (by kernel_rfl) (by kernel_rfl) (by kernel_rfl) rfl rfl (fun w' hw' => Yd.load1 rfl rfl ((hyr.ext hw') _ _ rfl)) ?_
          refine SegG.take 10 rfl (by kernel_rfl) (by kernel_rfl) (by kernel_rfl) (by kernel_rfl) (by kernel_rfl) rfl rfl (fun w' hw' => Yd.neq rfl rfl) ?_
          refine SegG.take 11 rfl (by kernel_rfl) (by kernel_rfl) (by kernel_rfl) (by kernel_rfl) (by kernel_rfl) rfl rfl (fun w' hw' => Yd.move rfl) ?_
          refine SegG.gsplitp 12 rfl rfl rfl (fun h48 => ?_) (fun h48 => ?_)
          · refine SegG.skip 12 rfl (by kernel_rfl) (by kernel_rfl) (by kernel_rfl) (by kernel_rfl) (by kernel_rfl) rfl rfl ?_
            refine SegG.skip 13 rfl (by kernel_rfl) (by kernel_rfl) (by kernel_rfl) (by kernel_rfl) (by kernel_rfl) rfl rfl ?_
            refine SegG.skip 14 rfl (by kernel_rfl) (by kernel_rfl) (by kernel_rfl) (by kernel_rfl) (by kernel_rfl) rfl rfl ?_
            refine SegG.skip 15 rfl (by kernel_rfl) (by kernel_rfl) (by kernel_rfl) (by kernel_rfl) (by kernel_rfl) rfl rfl ?_
            refine SegG.skip 16 rfl (by kernel_rfl) (by kernel_rfl) (by kernel_rfl) (by kernel_rfl) (by kernel_rfl) rfl rfl ?_
            refine SegG.skip 17 rfl (by kernel_rfl) (by kernel_rfl) (by kernel_rfl) (by kernel_rfl) (by kernel_rfl) rfl rfl ?_
            refine SegG.skip 18 rfl (by kernel_rfl) (by kernel_rfl) (by kernel_rfl) (by kernel_rfl) (by kernel_rfl) rfl rfl ?_
            refine SegG.skip 19 rfl (by kernel_rfl) (by kernel_rfl) (by kernel_rfl) (by kernel_rfl) (by kernel_rfl) rfl rfl ?_
            refine SegG.skip 20 rfl (by kernel_rfl) (by kernel_rfl) (by kernel_rfl) (by kernel_rfl) (by kernel_rfl) rfl rfl ?_
            refine SegG.skip 21 rfl (by kernel_rfl) (by kernel_rfl) (by kernel_rfl) (by kernel_rfl) (by kernel_rfl) rfl rfl ?_
            refine SegG.skip 22 rfl (by kernel_rfl) (by kernel_rfl) (by kernel_rfl) (by kernel_rfl) (by kernel_rfl) rfl rfl ?_
            refine SegG.skip 23 rfl (by kernel_rfl) (by kernel_rfl) (by kernel_rfl) (by kernel_rfl) (by kernel_rfl) rfl rfl ?_
            refine SegG.take 24 rfl (by kernel_rfl) (by kernel_rfl) (by kernel_rfl) (by kernel_rfl) (by kernel_rfl) rfl rfl (fun w' hw' => Yd.pickT rfl rfl) ?_
            refine SegG.done (by kernel_rfl) ?_
            refine At.then_ ?_
            refine Cd.condT rfl ?_
            refine Cd.seq ?_
            refine Cd.region ?_
            refine Seg.step rfl rfl (Yd.assign rfl) ?_
            refine Seg.nil ?_
            refine At.then_ ?_
            refine Cd.ret ?_
            refine At.blk_ret ?_
            refine At.then_ret ?_
            refine At.then_ret ?_
            refine At.blk_ret ?_
            refine At.then_ret ?_
            exact At.ret Try.results9 (.tmp rfl .nil) ⟨bF (not_same hD1 hD2 (fun h => h1 (congrArg Prod.fst h))), hE0⟩
          · exfalso; omega
        · exfalso; omega
    · have hXY := all_same hT (by simp; omega) (by simp [hlm])
      refine Cd.seq ?_
      refine Cd.seq ?_
      refine Cd.region ?_
      refine Seg.step rfl rfl (Yd.move rfl) ?_
      refine Seg.step rfl rfl (Yd.move rfl) ?_
      refine Seg.step rfl rfl (Yd.lenS rfl rfl) ?_
      refine Seg.step rfl rfl (Yd.lss rfl rfl) ?_
      refine Seg.nil ?_
      refine At.then_ ?_
      refine Cd.condk rfl (fun h27 => ?_) (fun h27 => ?_)
      · exfalso; omega
      · refine Cd.exit ?_
        refine At.then_exit ?_
        refine At.then_exit ?_
        refine At.blk_same ?_
        refine At.then_ ?_
        refine Cd.seq ?_
        refine Cd.region ?_
        refine Seg.step rfl rfl (Yd.assign rfl) ?_
        refine Seg.nil ?_
        refine At.then_ ?_
        refine Cd.ret ?_
        exact At.ret Try.results9 (.tmp rfl .nil) ⟨bT hXY, hE0⟩
  · refine Cd.seq ?_
    refine Cd.region ?_
    refine Seg.step rfl rfl (Yd.assign rfl) ?_
    refine Seg.nil ?_
    refine At.then_ ?_
    refine Cd.seq ?_
    refine Cd.seq ?_
    refine Cd.region ?_
    refine Seg.step rfl rfl (Yd.move rfl) ?_
    refine Seg.step rfl rfl (Yd.lenS rfl rfl) ?_
    refine Seg.step rfl rfl (Yd.move rfl) ?_
    refine Seg.step rfl rfl (Yd.lenS rfl rfl) ?_
    refine Seg.step rfl rfl (Yd.neq rfl rfl) ?_
    refine Seg.nil ?_
    refine At.then_ ?_
    refine Cd.condk rfl (fun h17 => ?_) (fun h17 => ?_)
    · refine Cd.seq ?_
      refine Cd.region ?_
      refine Seg.step rfl rfl (Yd.assign rfl) ?_
      refine Seg.nil ?_
      refine At.then_ ?_
      refine Cd.ret ?_
      refine At.then_ret ?_
      exact At.ret Try.results9 (.tmp rfl .nil) ⟨bF (fun h => hlm (by simpa using congrArg List.length h)), by assumption⟩
    · exfalso; omega
end Go.Proofs.Ytbmgigbedmgfpaa
