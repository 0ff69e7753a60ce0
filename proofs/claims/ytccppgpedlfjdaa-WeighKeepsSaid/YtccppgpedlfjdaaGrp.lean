/- The targets of one priority, as they are drawn: the walk. -/
import Derived.Test.YtccppgpedlfjdaaGrq
import Derived.Test.YtccppgpedlfjdaaStd
import Derived.Test.YtccppgpedlfjdaaWkj
import Derived.Test.YtccppgpedlfjdaaWkn
import Derived.Test.YtccppgpedlfjdaaWkw
namespace Go.Proofs.Ytccppgpedlfjdaa
open Go Go.RowKit
def wts (Y : List El) : List Int := Y.map fun y => heldI y.1.wt
theorem wts_len (Y : List El) : (wts Y).length = Y.length := by simp [wts]
theorem heldI_bd (i : Int) : 0 ≤ heldI i ∧ heldI i ≤ 2147483648 := by unfold heldI; omega
theorem wts_bd (Y : List El) : ∀ a ∈ wts Y, 0 ≤ a ∧ a ≤ 2147483648 := fun a ha => by
  obtain ⟨y, _, rfl⟩ := List.mem_map.1 ha
  exact heldI_bd _
theorem wts_get {Y : List El} {i : Nat} {y : El} (h : Y[i]? = some y) : (wts Y).getD i 0 = heldI y.1.wt := by
  simp [wts, List.getD, h]
def fillW (W : List Int) (i : Nat) : List Int := W.take i ++ List.replicate (W.length - i) 0
theorem fillW_len {W : List Int} {i : Nat} (h : i ≤ W.length) : (fillW W i).length = W.length := by simp [fillW]; omega
theorem fillW_get {W : List Int} {i : Nat} (h : i < W.length) : (fillW W i).getD i 0 = 0 := by
  unfold fillW
  rw [List.getD_eq_getElem?_getD, List.getElem?_append_right (by simp; omega)]
  simp [List.getElem?_replicate]
  split <;> rfl
theorem set_at {E : Type} (A : List E) (m : Nat) (x z : E) {i : Nat} (h : i = A.length) : (A ++ List.replicate (m + 1) z).set i x = (A ++ [x]) ++ List.replicate m z := by
  subst h
  simp [List.set_append, List.replicate_succ]
theorem fillW_set {W : List Int} {i : Nat} (h : i < W.length) : (fillW W i).set i ((fillW W i).getD i 0 + W.getD i 0) = fillW W (i + 1) := by
  rw [fillW_get h, Int.zero_add]
  unfold fillW
  rw [show W.length - i = (W.length - (i + 1)) + 1 by omega, set_at _ _ _ _ (by simp; omega), List.take_add_one]
  have : W[i]? = some (W.getD i 0) := by simp [List.getD, h]
  rw [this]; rfl
theorem fillW_bd {W : List Int} {i : Nat} (h : ∀ a ∈ W, 0 ≤ a ∧ a ≤ 2147483648) : ∀ a ∈ fillW W i, 0 ≤ a ∧ a ≤ 2147483648 := fun a ha => by
  rcases List.mem_append.1 ha with ha | ha
  · exact h a (List.mem_of_mem_take ha)
  · rw [List.eq_of_mem_replicate ha]; omega
theorem fillW_all (W : List Int) : fillW W W.length = W := by simp [fillW]
theorem fillW_none (W : List Int) : fillW W 0 = List.replicate W.length 0 := by simp [fillW]
theorem pre60 {A : List Int} (h : ∀ a ∈ A, 0 ≤ a ∧ a ≤ 2147483648) (hl : A.length ≤ 60) (k : Nat) : 0 ≤ pre A k ∧ pre A k ≤ 1099511627776 := by
  have := pre_bd h k
  have h2 : (A.length : Int) * 2147483648 ≤ 60 * 2147483648 := Int.mul_le_mul_of_nonneg_right (by omega) (by omega)
  omega
def bools (l : List Bool) : List Value := l.map .bool
theorem ints_rep (m : Nat) : reps m [.int .i64 0] = ints (List.replicate m 0) := by
  induction m with
  | zero => rfl
  | succ m ih => rw [reps, ih, List.replicate_succ]; rfl
theorem bools_rep (m : Nat) : reps m [.bool false] = bools (List.replicate m false) := by
  induction m with
  | zero => rfl
  | succ m ih => rw [reps, ih, List.replicate_succ]; rfl
theorem Kept.wr_new {p p' : Nat → Prop} {b : Nat} {w w1 w2 : World} (k : Kept p p' w w1) (h : Wr b w1 w2) (hb : w.heap.size ≤ b) : Kept p p' w w2 :=
  ⟨Nat.le_trans k.size h.size, fun c hc hn => (h.block c (Nat.lt_of_lt_of_le hc k.size) (by simp; omega)).trans (k.block c hc hn), k.own⟩
/-- A lot: none, or one at bd with draws at vx, of which u and k more were drawn. -/
def LtA (w : World) (bd : Nat) (vx vd : Value) : Option (List Int × Nat) → Nat → Prop
  | none, _ => vd = .pointer none
  | some (xs, u), k => vd = .pointer (some ⟨bd, 0, none⟩) ∧ Bx w bd [vx, .int .i64 ((u + k : Nat) : Int)] ∧ Sl w 1 vx xs.length (ints xs) ∧ OffP (fun r => r = bd) vx ∧ u + k < 1000000
theorem LtA.kept {w w' : World} {bd k : Nat} {vx vd : Value} {o : Option (List Int × Nat)} {p p' : Nat → Prop} (h : LtA w bd vx vd o k) (hk : Kept p p' w w') (hb : ¬ p bd) (ho : OffP p vx) : LtA w' bd vx vd o k := by
  match o, h with
  | none, h => exact h
  | some (xs, u), h => exact ⟨h.1, h.2.1.keeps (hk.block _ h.2.1.lt hb), h.2.2.1.keptP hk ho, h.2.2.2⟩
theorem LtA.ext {w w' : World} {bd k : Nat} {vx vd : Value} {o : Option (List Int × Nat)} (h : LtA w bd vx vd o k) (hE : Ext w w') : LtA w' bd vx vd o k := h.kept (Kept.ext (p := fun _ => False) hE) id (fun _ _ _ _ _ => id)
theorem draw_any {w : World} {bd k : Nat} {vx vd : Value} {o : Option (List Int × Nat)} (h : LtA w bd vx vd o k) (hk : ∀ xs u, o = some (xs, u) → u + k + 1 < 1000000) {n : Int} (hn : 1 ≤ n) (hn' : n ≤ 9223372036854775807) :
    Ret Try.prog 9 #[vd, .int .i64 n] w fun r w' => r = .int .i64 (drw o k n) ∧ LtA w' bd vx vd o (k + 1) ∧ Wr bd w w' := by
  match o, h with
  | none, h =>
    obtain rfl : vd = .pointer none := h
    exact (draw_nil n w).mono fun v w' ⟨hv, hE⟩ => ⟨hv, rfl, hE.wr bd⟩
  | some (xs, u), h =>
    obtain ⟨rfl, h1, h2, h3, h4⟩ := h
    exact (draw_pos bd xs (u + k) n vx w hn hn' (by omega) h1 h2).mono fun v w' ⟨hv, hW, hB⟩ => ⟨hv, ⟨rfl, hB, h2.keptP (Kept.wr hW) h3, h3, hk xs u rfl⟩, hW⟩
def flags (n : Nat) (D : List Nat) : List Bool := (List.range n).map fun j => decide (j ∈ D)
theorem flags_nil (n : Nat) : List.replicate n false = flags n [] := by
  apply List.ext_getElem
  · simp [flags]
  · intro j h1 h2; simp [flags]
theorem flags_get {n : Nat} {D : List Nat} {j : Nat} (h : j < n) : (bools (flags n D))[j]? = some (.bool (decide (j ∈ D))) := by simp [bools, flags, h]
theorem flags_set {n : Nat} {D : List Nat} {a : Nat} : (bools (flags n D)).set a (.bool true) = bools (flags n (D ++ [a])) := by
  apply List.ext_getElem
  · simp [bools, flags]
  · intro j h1 h2
    rw [List.getElem_set]
    by_cases hj : a = j
    · subst hj; simp [bools, flags]
    · rw [if_neg hj]; simp [bools, flags, show ¬ j = a from fun e => hj e.symm]
/-- Those at some places. -/
def outD (Y : List El) (D : List Nat) : List El := D.filterMap fun a => Y[a]?
theorem outD_snoc {Y : List El} {D : List Nat} {a : Nat} {y : El} (h : Y[a]? = some y) : outD Y (D ++ [a]) = outD Y D ++ [y] := by
  unfold outD
  rw [List.filterMap_append]
  simp [h]
structure GrS where
  F : List Int
  v : Value
  f : Nat
  k : Nat
theorem group_any (o : Option (List Int × Nat)) (a0 : World) (w : World) (vo vx vd : Value) (bd base : Nat) (X Y : List El) (al : Option Addr) (cl : Nat) (hn : Y.length ≤ 60) (hX : X.length ≤ 1000000) (hl : Sl w 33 (.slice al Y.length cl) Y.length (Y.flatMap cel))
    (hbd : bd < w.heap.size) (hbase : base ≤ w.heap.size) (hlot : LtA w bd vx vd o 0) (hu : ∀ xs u, o = some (xs, u) → u + Y.length < 1000000) (hown : w.ownsRow base 44 33 vo X.length (X.flatMap cel)) (hob : vo.ownBlock ≠ some bd)
    (hlo : OffP (fun r => r = bd ∨ ownP vo r) (.slice al Y.length cl)) (hxo : OffP (ownP vo) vx) (hxw : OffP (fun r => w.heap.size ≤ r) vx) (ha0 : Ext a0 w) (hab : a0.heap.size ≤ bd) (haB : a0.heap.size ≤ base) :
    Ret Try.prog 27 #[vo, .slice al Y.length cl, vd] w fun v w' => w'.ownsRow base 44 33 v (X ++ outD Y (seqB o (wts Y) Y.length)).length ((X ++ outD Y (seqB o (wts Y) Y.length)).flatMap cel) ∧ LtA w' bd vx vd o Y.length ∧ v.ownBlock ≠ some bd ∧
      Kept (fun r => r = bd ∨ ownP vo r) (fun r => r = bd ∨ ownP v r) w w' ∧ OffP (ownP v) vx ∧ Ext a0 w' := by
  have hE0 := Ext.refl w
  have kl : Keep (Sl w 33 (.slice al Y.length cl) Y.length (Y.flatMap cel)) := hl
  have kA0 : Keep (Ext a0 w) := ha0
  have ha0s := ha0.size
  clear ha0
  have hwl := wts_len Y
  have hwb := wts_bd Y
  refine Ret.body Try.func27 rfl Try.ntmps27 rfl ?_
  refine Cd.seq ?_
  refine Cd.region ?_
  refine Seg.step rfl rfl (Yd.assign rfl) ?_
  refine Seg.nil ?_
  refine At.then_ ?_
  refine Cd.seq ?_
  refine Cd.region ?_
  refine Seg.step rfl rfl (Yd.move rfl) ?_
  refine Seg.step rfl rfl (Yd.lenS rfl rfl) ?_
  refine Seg.step rfl rfl (Yd.addI rfl rfl (by omega)) ?_
  (refine Seg.makeN (m := Y.length + 1) rfl rfl rfl rfl (by kernel_rfl) rfl rfl rfl rfl ⟨by omega, by decide⟩ (fun w11 b11 hE11 hB11 hb11 => ?_))
  refine Seg.step rfl rfl (Yd.assign rfl) ?_
  refine Seg.nil ?_
  refine At.then_ ?_
  refine Cd.seq ?_
  refine Cd.region ?_
  refine Seg.step rfl rfl (Yd.move rfl) ?_
  refine Seg.step rfl rfl (Yd.lenS rfl rfl) ?_
  (refine Seg.makeN (m := Y.length) rfl rfl rfl rfl (by kernel_rfl) rfl rfl rfl rfl ⟨by omega, by decide⟩ (fun w19 b19 hE19 hB19 hb19 => ?_); have hlt11 := hB11.lt; replace hB11 := hB11.ext hE19)
  refine Seg.step rfl rfl (Yd.assign rfl) ?_
  refine Seg.nil ?_
  refine At.then_ ?_
  refine Cd.seq ?_
  refine Cd.region ?_
  refine Seg.step rfl rfl (Yd.assign rfl) ?_
  refine Seg.step rfl rfl (Yd.assign rfl) ?_
  refine Seg.nil ?_
  refine At.then_ ?_
  refine Cd.seq ?_
  refine Cd.seq ?_
  refine Cd.region ?_
  refine Seg.step rfl rfl (Yd.move rfl) ?_
  refine Seg.step rfl rfl (Yd.lenS rfl rfl) ?_
  refine Seg.step rfl rfl (Yd.move rfl) ?_
  refine Seg.nil ?_
  refine At.then_ ?_
  refine Cd.block ?_
  have hBt : Bx w19 b11 (ints (List.replicate (Y.length + 1) 0)) := by rw [← ints_rep]; exact hB11
  have hBg : Bx w19 b19 (bools (List.replicate Y.length false)) := by rw [← bools_rep]; exact hB19
  have hw11 : w.heap.size ≤ b11 := hb11
  have hw19 : w.heap.size ≤ b19 := Nat.le_trans (Below.size hE11) hb19
  have hne : b11 < b19 := Nat.lt_of_lt_of_le hlt11 hb19
  clear hB11 hB19
  refine Cd.loop (σ := List Int × Nat) (fun s => [(0, vo), (1, .slice al Y.length cl), (2, vd), (7, .slice (some ⟨b11, 0, none⟩) (Y.length + 1) (Y.length + 1)), (8, .slice (some ⟨b19, 0, none⟩) Y.length Y.length), (9, .int .i64 (pre (wts Y) s.2)), (10, .int .i64 0), (22, .slice al Y.length cl), (23, .int .i64 (Y.length : Int)), (24, .int .i64 (s.2 : Int))])
    (fun s w' => (s.2 ≤ Y.length ∧ FT (fillW (wts Y) s.2) s.1) ∧ Bx w' b11 (ints s.1) ∧ Bx w' b19 (bools (List.replicate Y.length false)) ∧ Ext w w') (fun s => Y.length - s.2) (List.replicate (Y.length + 1) 0, 0) (.cons rfl (.cons rfl (.cons rfl (.cons rfl (.cons rfl (.cons rfl (.cons rfl (.cons rfl (.cons rfl (.cons rfl (.nil _)))))))))))
    ⟨⟨Nat.zero_le _, by rw [fillW_none, hwl]; exact FT.zero _⟩, hBt, hBg, Ext.trans hE11 hE19⟩ ?_
  clear hBt hBg hE0
  rintro ⟨F, i⟩ w0 ⟨⟨hi, hT⟩, hBt, hBg, hE9⟩
  simp only at hi hT hBt ⊢
  have hE0 := hE9
  have hFl : F.length = Y.length + 1 := by rw [hT.1, fillW_len (by omega), hwl]
  by_cases hlt : i < Y.length
  · obtain ⟨y, hy⟩ : ∃ y, Y[i]? = some y := ⟨_, List.getElem?_eq_getElem hlt⟩
    obtain ⟨d, rfl⟩ : ∃ d, al = some d := by
      obtain ⟨ao', c', e, _, _, hz⟩ := kl
      cases e
      cases al with
      | none => have := hz rfl; omega
      | some d => exact ⟨d, rfl⟩
    have hyr : Row w (Addr.add d (i * 33)) (cel y) := by
      obtain ⟨ao', c', e, _, hr, _⟩ := kl
      cases e
      exact flat_row (cel := cel) (zs := []) celK (by simpa using hr d rfl) hy
    have hyr0 := hyr.ext hE9
    have hg := wts_get hy
    have hx := heldI_bd y.1.wt
    have hps := pre_step (A := wts Y) (i := i) (by omega)
    rw [hg] at hps
    have hpb := pre60 hwb (by omega) i
    have hadd := add_any F b11 (Y.length + 1) i (heldI y.1.wt)
    rw [hFl] at hadd
    have hone : ∀ c ∈ (cel y).toArray.toList, c.oneCell' = true := celOne y
    have hbdF := hT.bd (pre60 (fillW_bd hwb) (by rw [fillW_len (by omega)]; omega))
    rw [hFl] at hbdF
    have hms : Y.length - (i + 1) < Y.length - i := Nat.sub_lt_sub_left hlt (Nat.lt_succ_self i)
    refine Cd.seq ?_
    refine Cd.region ?_
    refine Seg.step rfl rfl (Yd.lss rfl rfl) ?_
    refine Seg.nil ?_
    refine At.then_ ?_
    refine Cd.seq ?_
    refine Cd.condk rfl (fun h26 => ?_) (fun h26 => ?_)
    · refine Cd.skip ?_
      refine At.then_ ?_
      refine Cd.seq ?_
      refine Cd.block ?_
      refine Cd.seq ?_
      refine Cd.region ?_
      refine Seg.step rfl rfl (Yd.move rfl) ?_
      refine Seg.step rfl rfl (Yd.indexAddr rfl rfl rfl (NatOf.cast _) (by omega)) ?_
      refine Seg.step rfl rfl (Yd.loadN rfl rfl rfl hyr0) ?_
      refine Seg.alloc rfl rfl rfl (fun w37 b37 hE37 hB37 hb37 => ?_)
      have hlt37_0 := Nat.lt_of_lt_of_le hBt.lt hb37
      have hlt37_1 := Nat.lt_of_lt_of_le hBg.lt hb37
      have hlt37_2 := Nat.le_trans hE9.size hb37
      have hlt37_3 := Nat.le_trans hE0.size hb37
      replace hBt := hBt.ext hE37
      replace hBg := hBg.ext hE37
      replace hE9 := Ext.trans hE9 hE37
      replace hE0 := Ext.trans hE0 hE37
      replace hyr0 := hyr0.ext hE37
      refine Seg.step rfl rfl (Yd.assign rfl) ?_
      (refine Seg.storeN (a := (cel y).toArray) rfl rfl rfl rfl hB37 rfl hone (fun w39 hW39 hB39 => ?_); have hE39 := Ext.wr' (by assumption : Ext w _) hW39 (by omega); have hBt := hBt.wr hW39 (by omega); have hBg := hBg.wr hW39 (by omega))
      refine Seg.nil ?_
      refine At.then_ ?_
      refine Cd.seq ?_
      refine Cd.region ?_
      refine Seg.step rfl rfl (Yd.move rfl) ?_
      refine Seg.step rfl rfl (Yd.move rfl) ?_
      refine Seg.step rfl rfl (Yd.fieldAddr rfl rfl) ?_
      refine Seg.step rfl rfl (Yd.load1 rfl rfl (hB39.row _ _ rfl)) ?_
      (refine Seg.call rfl rfl (own_of rfl) rfl (held_any _ _) ?_; rintro _ w48 ⟨rfl, hE48⟩)
      replace hW39 := Wr.trans hW39 (Ext.wr hE48 _)
      replace hB39 := hB39.ext hE48
      replace hE39 := Ext.trans hE39 hE48
      replace hBt := hBt.ext hE48
      replace hBg := hBg.ext hE48
      (refine Seg.call rfl rfl (own_of rfl) rfl (hadd _ (by omega) (by omega) hBt hbdF (by omega)) ?_; rintro _ w49 ⟨⟨F', hBt, hFl', hFv⟩, hW49⟩; have hE49 := Ext.wr' (by assumption : Ext w _) hW49 hw11; have hBg := hBg.wr hW49 (by omega); have hB39 := hB39.wr hW49 (by omega); have hT' := hT.add (by rw [fillW_len (by omega)]; omega) (hFl'.trans hFl.symm) (fun j hj => hFv j (by omega)))
      refine Seg.nil ?_
      refine At.then_ ?_
      refine Cd.region ?_
      refine Seg.step rfl rfl (Yd.move rfl) ?_
      refine Seg.step rfl rfl (Yd.fieldAddr rfl rfl) ?_
      refine Seg.step rfl rfl (Yd.load1 rfl rfl (hB39.row _ _ rfl)) ?_
      (refine Seg.call rfl rfl (own_of rfl) rfl (held_any _ _) ?_; rintro _ w56 ⟨rfl, hE56⟩)
      replace hW49 := Wr.trans hW49 (Ext.wr hE56 _)
      replace hBt := hBt.ext hE56
      replace hE49 := Ext.trans hE49 hE56
      replace hBg := hBg.ext hE56
      replace hB39 := hB39.ext hE56
      refine Seg.step rfl rfl (Yd.addI rfl rfl (by omega)) ?_
      refine Seg.step rfl rfl (Yd.assign rfl) ?_
      refine Seg.nil ?_
      refine At.blk ?_
      refine At.then_ ?_
      refine Cd.region ?_
      refine Seg.step rfl rfl (Yd.addI rfl rfl (by omega)) ?_
      refine Seg.step rfl rfl (Yd.move rfl) ?_
      refine Seg.nil ?_
      exact At.round (F', i + 1) (.cons rfl (.cons rfl (.cons rfl (.cons rfl (.cons rfl (.cons (by rw [hps]; rfl) (.cons rfl (.cons rfl (.cons rfl (.cons rfl (.nil _))))))))))) ⟨⟨hlt, by rw [← fillW_set (by omega), hg]; exact hT'⟩, hBt, hBg, by assumption⟩ hms
    · exfalso; omega
  · have hie : i = Y.length := by omega
    subst hie
    have hfa : fillW (wts Y) Y.length = wts Y := by rw [← hwl]; exact fillW_all _
    rw [hfa] at hT
    have kE : Keep (Ext w w0) := hE9
    rw [flags_nil] at hBg
    have hlot0 := hlot.ext hE9
    have hown0 := own_ext hown hE9
    refine Cd.seq ?_
    refine Cd.region ?_
    refine Seg.step rfl rfl (Yd.lss rfl rfl) ?_
    refine Seg.nil ?_
    refine At.then_ ?_
    refine Cd.seq ?_
    refine Cd.condk rfl (fun h26 => ?_) (fun h26 => ?_)
    · exfalso; omega
    refine Cd.exit ?_
    refine At.then_exit ?_
    refine At.then_exit ?_
    refine At.blk_same ?_
    refine At.then_ ?_
    refine Cd.seq ?_
    refine Cd.seq ?_
    refine Cd.region ?_
    refine Seg.step rfl rfl (Yd.move rfl) ?_
    refine Seg.step rfl rfl (Yd.lenS rfl rfl) ?_
    refine Seg.step rfl rfl (Yd.move rfl) ?_
    refine Seg.nil ?_
    refine At.then_ ?_
    refine Cd.block ?_
    refine Cd.loop (σ := GrS) (fun t => [(0, t.v), (1, .slice al Y.length cl), (2, vd), (7, .slice (some ⟨b11, 0, none⟩) (Y.length + 1) (Y.length + 1)), (8, .slice (some ⟨b19, 0, none⟩) Y.length Y.length), (9, .int .i64 (pre (zer (wts Y) (seqB o (wts Y) t.k)) Y.length)), (10, .int .i64 (t.f : Int)), (42, .int .i64 (Y.length : Int)), (43, .int .i64 (t.k : Int))])
      (fun t w' => (t.k ≤ Y.length ∧ FT (zer (wts Y) (seqB o (wts Y) t.k)) t.F ∧ t.f ≤ Y.length ∧ (∀ j, j < t.f → j ∈ seqB o (wts Y) t.k) ∧ (∀ j ∈ seqB o (wts Y) t.k, j < Y.length)) ∧
        Bx w' b11 (ints t.F) ∧ Bx w' b19 (bools (flags Y.length (seqB o (wts Y) t.k))) ∧ LtA w' bd vx vd o t.k ∧
        (w'.ownsRow base 44 33 t.v (X ++ outD Y (seqB o (wts Y) t.k)).length ((X ++ outD Y (seqB o (wts Y) t.k)).flatMap cel) ∧ t.v.ownBlock ≠ some bd ∧ t.v.ownBlock ≠ some b11 ∧ t.v.ownBlock ≠ some b19) ∧
        (Kept (fun r => r = bd ∨ ownP vo r) (fun r => r = bd ∨ ownP t.v r) w w' ∧ OffP (ownP t.v) vx ∧ Ext a0 w')) (fun t => Y.length - t.k) ⟨F, vo, 0, 0⟩ (.cons rfl (.cons rfl (.cons rfl (.cons rfl (.cons rfl (.cons (by show _ = some (Value.int .i64 (pre (zer (wts Y) []) Y.length)); rw [zer_nil]; rfl) (.cons rfl (.cons rfl (.cons rfl (.nil _))))))))))
      ⟨⟨Nat.zero_le _, by show FT (zer (wts Y) []) F; rw [zer_nil]; exact hT, Nat.zero_le _, (fun _ h => absurd h (Nat.not_lt_zero _)), fun _ h => (by cases h)⟩, hBt, hBg, hlot0,
        ⟨by show w0.ownsRow base 44 33 vo (X ++ []).length ((X ++ []).flatMap cel); rw [List.append_nil]; exact hown0, hob, fun h => by have := (hown.lt _ h).2; omega, fun h => by have := (hown.lt _ h).2; omega⟩, Kept.ext hE9, hxo, Ext.trans kA0 hE9⟩ ?_
    clear hBt hBg hlot0 hown0 hT hFl F hE0 hE9
    rintro ⟨F, v, f, k⟩ w1 ⟨⟨hk, hT, hf, hfD, hDn⟩, hBt, hBg, hlk, ⟨hO, hn1, hn2, hn3⟩, ⟨hK, hxv, hA1⟩⟩
    simp only at hk hT hf hfD hDn hBt hBg hlk hO hn1 hn2 hn3 hK hxv ⊢
    have hFl : F.length = Y.length + 1 := by rw [hT.1, zer_len, hwl]
    have hDl := seq_len o (wts Y) k
    have hnx : seqB o (wts Y) (k + 1) = seqB o (wts Y) k ++ [nxt o k (wts Y) (seqB o (wts Y) k)] := rfl
    generalize hDs0 : seqB o (wts Y) k = D at hT hfD hDn hBg hO hDl hnx
    have hDs := hDs0.symm
    clear hDs0
    have kA1 : Keep (Ext a0 w1) := hA1
    clear hA1
    have hE0 := Ext.refl w1
    have kBt : Keep (Bx w1 b11 (ints F)) := hBt
    have kBg : Keep (Bx w1 b19 (bools (flags Y.length D))) := hBg
    have kO : Keep (w1.ownsRow base 44 33 v (X ++ outD Y D).length ((X ++ outD Y D).flatMap cel)) := hO
    have hlk : Keep (LtA w1 bd vx vd o k) := hlk
    have hK : Keep (Kept (fun r => r = bd ∨ ownP vo r) (fun r => r = bd ∨ ownP v r) w w1) := hK
    clear hBt hBg hO
    by_cases hlt : k < Y.length
    · refine Cd.seq ?_
      refine Cd.region ?_
      refine Seg.step rfl rfl (Yd.lss rfl rfl) ?_
      refine Seg.nil ?_
      refine At.then_ ?_
      refine Cd.seq ?_
      refine Cd.condk rfl (fun h33 => ?_) (fun h33 => ?_)
      rotate_left 1
      · exfalso; omega
      rotate_right 1
      refine Cd.skip ?_
      refine At.then_ ?_
      refine Cd.seq ?_
      refine Cd.block ?_
      refine Cd.seq ?_
      refine Cd.block ?_
      refine Cd.loop (σ := Nat) (fun g => [(0, v), (1, .slice al Y.length cl), (2, vd), (7, .slice (some ⟨b11, 0, none⟩) (Y.length + 1) (Y.length + 1)), (8, .slice (some ⟨b19, 0, none⟩) Y.length Y.length), (9, .int .i64 (pre (zer (wts Y) D) Y.length)), (10, .int .i64 (g : Int)), (42, .int .i64 (Y.length : Int)), (43, .int .i64 (k : Int))])
        (fun g w' => g ≤ Y.length ∧ (∀ j, j < g → j ∈ D) ∧ Ext w1 w') (fun g => Y.length - g) f (.cons rfl (.cons rfl (.cons rfl (.cons rfl (.cons rfl (.cons rfl (.cons rfl (.cons rfl (.cons rfl (.nil _)))))))))) ⟨hf, hfD, hE0⟩ ?_
      clear hE0 hf hfD
      rintro g w2 ⟨hg, hgD, hE0⟩
      have hg' := hg
      have hgl : g < Y.length := by
        rcases Nat.lt_or_ge g Y.length with h | h
        · exact h
        · have := full_len (n := Y.length) (D := D) fun j hj => hgD j (by omega)
          omega
      have hrow := (Bx.ext kBg hE0).row _ _ (flags_get (D := D) hgl)
      by_cases hgm : g ∈ D
      · have hd : decide (g ∈ D) = true := decide_eq_true hgm
        rw [hd] at hrow
        refine Cd.seq ?_
        refine Cd.seq ?_
        refine Cd.region ?_
        refine Seg.step rfl rfl (Yd.move rfl) ?_
        refine Seg.step rfl rfl (Yd.move rfl) ?_
        refine Seg.step rfl rfl (Yd.indexAddr1 rfl rfl rfl (NatOf.cast _) (by omega)) ?_
        refine Seg.step rfl rfl (Yd.load1 rfl rfl hrow) ?_
        refine Seg.nil ?_
        refine At.then_ ?_
        refine Cd.condT rfl ?_
        refine Cd.skip ?_
        refine At.then_ ?_
        refine Cd.block ?_
        refine Cd.region ?_
        refine Seg.step rfl rfl (Yd.move rfl) ?_
        refine Seg.step rfl rfl (Yd.addI rfl rfl (by omega)) ?_
        refine Seg.step rfl rfl (Yd.assign rfl) ?_
        refine Seg.nil ?_
        refine At.blk ?_
        exact At.round (g + 1) (.cons rfl (.cons rfl (.cons rfl (.cons rfl (.cons rfl (.cons rfl (.cons rfl (.cons rfl (.cons rfl (.nil _)))))))))) ⟨hgl, (fun j hj => (Nat.lt_succ_iff_lt_or_eq.1 hj).elim (hgD j) (fun e => e ▸ hgm)), hE0⟩ (Nat.sub_lt_sub_left hgl (Nat.lt_succ_self g))
      · have hd : decide (g ∈ D) = false := decide_eq_false hgm
        rw [hd] at hrow
        have hfst := first_is hgl hgm hgD
        have hzb := zer_bd (D := D) (by omega) hwb
        have hSb := pre60 hzb (by rw [zer_len]; omega)
        have hS := hSb Y.length
        refine Cd.seq ?_
        refine Cd.seq ?_
        refine Cd.region ?_
        refine Seg.step rfl rfl (Yd.move rfl) ?_
        refine Seg.step rfl rfl (Yd.move rfl) ?_
        refine Seg.step rfl rfl (Yd.indexAddr1 rfl rfl rfl (NatOf.cast _) (by omega)) ?_
        refine Seg.step rfl rfl (Yd.load1 rfl rfl hrow) ?_
        refine Seg.nil ?_
        refine At.then_ ?_
        refine Cd.condF rfl ?_
        refine Cd.exit ?_
        refine At.then_exit ?_
        refine At.then_exit ?_
        refine At.blk_same ?_
        refine At.then_ ?_
        refine Cd.seq ?_
        refine Cd.region ?_
        refine Seg.step rfl rfl (Yd.move rfl) ?_
        refine Seg.step rfl rfl (Yd.assign rfl) ?_
        refine Seg.nil ?_
        refine At.then_ ?_
        refine Cd.seq ?_
        refine Cd.seq ?_
        refine Cd.region ?_
        refine Seg.step rfl rfl (Yd.move rfl) ?_
        refine Seg.step rfl rfl (Yd.move rfl) ?_
        refine Seg.step rfl rfl (Yd.addI rfl rfl (by omega)) ?_
        refine Seg.call rfl rfl (own_of rfl) rfl (draw_any (LtA.ext hlk hE0) (fun xs u h => by have := hu xs u h; omega) (by omega) (by omega)) ?_
        rintro _ w3 ⟨rfl, hlk3, hW3⟩
        have hBt3 : Keep (Bx w3 b11 (ints F)) := (Bx.ext kBt hE0).wr hW3 (by omega)
        have hBg3 : Keep (Bx w3 b19 (bools (flags Y.length D))) := (Bx.ext kBg hE0).wr hW3 (by omega)
        have hO3 : Keep (w3.ownsRow base 44 33 v (X ++ outD Y D).length ((X ++ outD Y D).flatMap cel)) := own_wr (own_ext kO hE0) hW3 hn1
        have hK3 : Keep (Kept (fun r => r = bd ∨ ownP vo r) (fun r => r = bd ∨ ownP v r) w w3) := (Kept.ext_trans hK hE0).trans ((Kept.wr hW3).mono (q := fun r => r = bd ∨ ownP v r) (q' := fun r => r = bd ∨ ownP v r) (fun r h => .inl h) (fun r h => .inr h))
        have kA3 : Keep (Ext a0 w3) := Ext.wr' (Ext.trans kA1 hE0) hW3 hab
        have hlk3 : Keep (LtA w3 bd vx vd o (k + 1)) := hlk3
        have hrb := drw_bd o k (n := pre (zer (wts Y) D) Y.length + 1) (by omega)
        have hnx2 : nxt o k (wts Y) D = if 0 < drw o k (pre (zer (wts Y) D) Y.length + 1) then pickI (zer (wts Y) D) (drw o k (pre (zer (wts Y) D) Y.length + 1)) else firstN Y.length D := by unfold nxt; rw [hwl]
        generalize drw o k (pre (zer (wts Y) D) Y.length + 1) = r0 at hrb hnx2
        have hE0 := Ext.refl w3
        clear hrow
        by_cases hr : 0 < r0
        · rw [if_pos hr] at hnx2
          have hfind := find_any (zer (wts Y) D) F b11 (Y.length + 1) r0
          rw [hFl] at hfind
          refine Seg.step rfl rfl (Yd.assign rfl) ?_
          refine Seg.nil ?_
          refine At.then_ ?_
          refine Cd.seq ?_
          refine Cd.region ?_
          refine Seg.step rfl rfl (Yd.move rfl) ?_
          refine Seg.step rfl rfl (Yd.gtr rfl rfl) ?_
          refine Seg.nil ?_
          refine At.then_ ?_
          refine Cd.condk rfl (fun h43 => ?_) (fun h43 => ?_)
          rotate_left 1
          · exfalso; omega
          rotate_right 1
          refine Cd.region ?_
          refine Seg.step rfl rfl (Yd.move rfl) ?_
          refine Seg.step rfl rfl (Yd.move rfl) ?_
          (refine Seg.call rfl rfl (own_of rfl) rfl (hfind _ (by rw [zer_len]; omega) hT ⟨by omega, by rw [zer_len, hwl]; omega⟩ hSb hBt3) ?_; rintro _ w48 ⟨⟨a, rfl, ha1, ha2, ha3⟩, hE48⟩)
          replace hlk3 := hlk3.ext hE48
          replace hW3 := Wr.trans hW3 (Ext.wr hE48 _)
          replace hE0 := Ext.trans hE0 hE48
          refine Seg.step rfl rfl (Yd.assign rfl) ?_
          refine Seg.nil ?_
          refine At.then_ ?_
          refine Cd.seq ?_
          refine Cd.region ?_
          refine Seg.step rfl rfl (Yd.move rfl) ?_
          refine Seg.step rfl rfl (Yd.move rfl) ?_
          have hpk := pick_is (fun x hx => (hzb x hx).1) ha1 ha2 ha3
          have haD : a ∉ D := fun hm => by
            have h1 := pre_step ha1
            rw [zer_len] at ha1
            rw [zer_get ha1, if_pos hm] at h1
            omega
          have ha : a < Y.length := by rw [zer_len, hwl] at ha1; exact ha1
          rw [hpk] at hnx2
          rw [hnx2] at hnx
          clear ha1 ha2 ha3 hpk hfind
          obtain ⟨y, hy⟩ : ∃ y, Y[a]? = some y := ⟨_, List.getElem?_eq_getElem ha⟩
          have hl3 : ∀ w', Kept (fun r => r = bd ∨ ownP vo r) (fun r => r = bd ∨ ownP v r) w w' → Sl w' 33 (.slice al Y.length cl) Y.length (Y.flatMap cel) := fun w' h => Sl.keptP kl h hlo
          obtain ⟨d, rfl⟩ : ∃ d, al = some d := by
            obtain ⟨ao', c', e, _, _, hz⟩ := kl
            cases e
            cases al with
            | none => have := hz rfl; omega
            | some d => exact ⟨d, rfl⟩
          have hrowK : ∀ w', Kept (fun r => r = bd ∨ ownP vo r) (fun r => r = bd ∨ ownP v r) w w' → Row w' (Addr.add d (a * 33)) (cel y) := fun w' h => by
            obtain ⟨ao', c', e, _, hr, _⟩ := hl3 w' h
            cases e
            exact flat_row (cel := cel) (zs := []) celK (by simpa using hr d rfl) hy
          have hg := wts_get hy
          have hx := heldI_bd y.1.wt
          have hadd := add_any F b11 (Y.length + 1) a (-(heldI y.1.wt))
          rw [hFl] at hadd
          have hbdF := hT.bd hSb
          rw [hFl] at hbdF
          have hT' : ∀ F' : List Int, F'.length = F.length → (∀ j, j < F.length → F'.getD j 0 = F.getD j 0 + (if cov j a then -(heldI y.1.wt) else 0)) → FT (zer (wts Y) (D ++ [a])) F' := fun F' h1 h2 => by
            rw [zer_snoc (by omega) haD, hg]
            exact hT.add (by rw [zer_len]; omega) h1 h2
          have hps : pre (zer (wts Y) (D ++ [a])) Y.length = pre (zer (wts Y) D) Y.length - heldI y.1.wt := by
            rw [zer_snoc (by omega) haD, pre_set (by rw [zer_len]; omega), if_pos ha, hg, Int.sub_eq_add_neg]
          have hsz3 := hK3.size
          refine Seg.step rfl rfl (Yd.indexAddr1 rfl rfl rfl (NatOf.cast _) (by omega)) ?_
          refine Seg.store1 (k := a) (v := .bool true) rfl rfl rfl rfl rfl (Bx.ext hBg3 hE0) (by simpa [bools, flags] using ha) (fun w4 hW4 hBgx => ?_)
          have hBg4 : Keep (Bx w4 b19 (bools (flags Y.length (D ++ [a])))) := by rw [← flags_set]; exact hBgx
          clear hBgx
          have hBt4 : Keep (Bx w4 b11 (ints F)) := (Bx.ext hBt3 hE0).wr hW4 (by omega)
          have hO4 : Keep (w4.ownsRow base 44 33 v (X ++ outD Y D).length ((X ++ outD Y D).flatMap cel)) := own_wr (own_ext hO3 hE0) hW4 hn3
          have kA4 : Keep (Ext a0 w4) := Ext.wr' (Ext.trans kA3 hE0) hW4 (Nat.le_trans ha0s hw19)
          have hlk4 : Keep (LtA w4 bd vx vd o (k + 1)) := LtA.kept (by first | exact hlk3 | exact LtA.ext hlk3 hE0) (Kept.wr hW4) (by omega) (hxw.sub fun r h => by subst h; exact hw19)
          have hK4 : Keep (Kept (fun r => r = bd ∨ ownP vo r) (fun r => r = bd ∨ ownP v r) w w4) := Kept.wr_new (Kept.ext_trans hK3 hE0) hW4 hw19
          have hE0 := Ext.refl w4
          refine Seg.nil ?_
          refine At.then_ ?_
          refine Cd.seq ?_
          refine Cd.region ?_
          refine Seg.step rfl rfl (Yd.move rfl) ?_
          refine Seg.step rfl rfl (Yd.move rfl) ?_
          refine Seg.step rfl rfl (Yd.move rfl) ?_
          refine Seg.step rfl rfl (Yd.move rfl) ?_
          refine Seg.step rfl rfl (Yd.indexAddr rfl rfl rfl (NatOf.cast _) (by omega)) ?_
          refine Seg.step rfl rfl (Yd.fieldAddr rfl rfl) ?_
          refine Seg.step rfl rfl (Yd.load1 rfl rfl (hrowK _ (Kept.ext_trans hK4 hE0) 25 (.int .i64 y.1.wt) rfl)) ?_
          (refine Seg.call rfl rfl (own_of rfl) rfl (held_any _ _) ?_; rintro _ w60 ⟨rfl, hE60⟩)
          replace hW4 := Wr.trans hW4 (Ext.wr hE60 _)
          replace hE0 := Ext.trans hE0 hE60
          (refine Seg.step rfl rfl (Yd.negI rfl (by omega)) ?_)
          refine Seg.call rfl rfl (own_of rfl) rfl (hadd _ (by omega) (by omega) (Bx.ext hBt4 hE0) hbdF (by omega)) ?_
          rintro _ w5 ⟨⟨F', hBtx, hFl', hFv⟩, hW5⟩
          have hBt5 : Keep (Bx w5 b11 (ints F')) := hBtx
          clear hBtx
          have hBg5 : Keep (Bx w5 b19 (bools (flags Y.length (D ++ [a])))) := (Bx.ext hBg4 hE0).wr hW5 (by omega)
          have hO5 : Keep (w5.ownsRow base 44 33 v (X ++ outD Y D).length ((X ++ outD Y D).flatMap cel)) := own_wr (own_ext hO4 hE0) hW5 hn2
          have kA5 : Keep (Ext a0 w5) := Ext.wr' (Ext.trans kA4 hE0) hW5 (Nat.le_trans ha0s hw11)
          have hlk5 : Keep (LtA w5 bd vx vd o (k + 1)) := LtA.kept (by first | exact hlk4 | exact LtA.ext hlk4 hE0) (Kept.wr hW5) (by omega) (hxw.sub fun r h => by subst h; exact hw11)
          have hK5 : Keep (Kept (fun r => r = bd ∨ ownP vo r) (fun r => r = bd ∨ ownP v r) w w5) := Kept.wr_new (Kept.ext_trans hK4 hE0) hW5 hw11
          have hT5 := hT' F' (hFl'.trans hFl.symm) (fun j hj => hFv j (by omega))
          have hE0 := Ext.refl w5
          refine Seg.nil ?_
          refine At.then_ ?_
          refine Cd.seq ?_
          refine Cd.region ?_
          refine Seg.step rfl rfl (Yd.move rfl) ?_
          refine Seg.step rfl rfl (Yd.move rfl) ?_
          refine Seg.step rfl rfl (Yd.move rfl) ?_
          refine Seg.step rfl rfl (Yd.indexAddr rfl rfl rfl (NatOf.cast _) (by omega)) ?_
          refine Seg.step rfl rfl (Yd.fieldAddr rfl rfl) ?_
          refine Seg.step rfl rfl (Yd.load1 rfl rfl (hrowK _ (Kept.ext_trans hK5 hE0) 25 (.int .i64 y.1.wt) rfl)) ?_
          (refine Seg.call rfl rfl (own_of rfl) rfl (held_any _ _) ?_; rintro _ w71 ⟨rfl, hE71⟩)
          replace hW5 := Wr.trans hW5 (Ext.wr hE71 _)
          replace hE0 := Ext.trans hE0 hE71
          refine Seg.step rfl rfl (Yd.subI rfl rfl (by omega)) ?_
          refine Seg.step rfl rfl (Yd.assign rfl) ?_
          refine Seg.nil ?_
          refine At.then_ ?_
          refine Cd.region ?_
          refine Seg.step rfl rfl (Yd.move rfl) ?_
          refine Seg.step rfl rfl (Yd.move rfl) ?_
          refine Seg.step rfl rfl (Yd.move rfl) ?_
          refine Seg.step rfl rfl (Yd.indexAddr rfl rfl rfl (NatOf.cast _) (by omega)) ?_
          refine Seg.step rfl rfl (Yd.loadN rfl rfl rfl (hrowK _ (Kept.ext_trans hK5 hE0))) ?_
          refine Seg.buildSliceV rfl rfl rfl rfl rfl rfl rfl rfl rfl rfl (fun w82 b82 hE82 hB82 hb82 hO82 => ?_)
          have hlt82_0 := Nat.le_trans hE71.size hb82
          have hlt82_1 := Nat.le_trans hE0.size hb82
          replace hE71 := Ext.trans hE71 hE82
          replace hW5 := Wr.trans hW5 (Ext.wr hE82 _)
          replace hE0 := Ext.trans hE0 hE82
          have hln : (outD Y D).length ≤ 60 := Nat.le_trans (List.length_filterMap_le _ _) (by omega)
          have hxl : (X ++ outD Y D).length + 1 ≤ 100000000 := by rw [List.length_append]; omega
          have hszc := Nat.le_trans hK5.size (Below.size hE0)
          have hltt := (Bx.ext hBt5 hE0).lt
          have hltg := (Bx.ext hBg5 hE0).lt
          refine Seg.appendAt (news := cel y) (m' := 1) rfl rfl rfl rfl rfl rfl rfl rfl rfl (own_ext hO5 hE0) (own_sl (by assumption)) (celOne y) (Nat.le_trans hbase hszc) hxl rfl (fun v6 w6 hN hG hAt => ?_)
          have hBt6 : Bx w6 b11 (ints F') := (Bx.ext hBt5 hE0).grown hG hn2.symm
          have hBg6 : Bx w6 b19 (bools (flags Y.length (D ++ [a]))) := (Bx.ext hBg5 hE0).grown hG hn3.symm
          have hlk6 : LtA w6 bd vx vd o (k + 1) := LtA.kept (by first | exact hlk5 | exact LtA.ext hlk5 hE0) (Kept.grown hG hAt) hn1 hxv
          have hK6 : Kept (fun r => r = bd ∨ ownP vo r) (fun r => r = bd ∨ ownP v6 r) w w6 := (Kept.ext_trans hK5 hE0).trans ((Kept.grown hG hAt).mono (q := fun r => r = bd ∨ ownP v r) (q' := fun r => r = bd ∨ ownP v6 r) (fun r h => .inr h) (fun r h => h.elim (fun h => .inr (.inl h)) .inl))
          have hA6 : Ext a0 w6 := Ext.own (Ext.trans kA5 hE0) (own_ext hO5 hE0) haB hG
          have hm1 : v6.ownBlock ≠ some bd := fun h2 => hAt.elim (fun e => hn1 (e.symm.trans h2)) (fun e => by have := Option.some.inj (e.symm.trans h2); omega)
          have hm2 : v6.ownBlock ≠ some b11 := fun h2 => hAt.elim (fun e => hn2 (e.symm.trans h2)) (fun e => by have := Option.some.inj (e.symm.trans h2); omega)
          have hm3 : v6.ownBlock ≠ some b19 := fun h2 => hAt.elim (fun e => hn3 (e.symm.trans h2)) (fun e => by have := Option.some.inj (e.symm.trans h2); omega)
          have hxv6 : OffP (ownP v6) vx := fun p m c e hm hp => hAt.elim (fun e2 => hxv p m c e hm (e2.symm.trans hp)) (fun e2 => hxw p m c e hm (by have := Option.some.inj (e2.symm.trans hp); omega))
          have hO6 : w6.ownsRow base 44 33 v6 (X ++ outD Y (D ++ [a])).length ((X ++ outD Y (D ++ [a])).flatMap cel) := by
            rw [outD_snoc hy, ← List.append_assoc]
            have e1 : ((X ++ outD Y D) ++ [y]).length = (X ++ outD Y D).length + 1 := by rw [List.length_append (bs := [y])]; rfl
            have e2 : ((X ++ outD Y D) ++ [y]).flatMap cel = (X ++ outD Y D).flatMap cel ++ cel y := by rw [List.flatMap_append (ys := [y])]; simp
            rw [e1, e2]
            exact hN
          have hf6 : ∀ j, j < g → j ∈ D ++ [a] := fun j hj => List.mem_append_left _ (hgD j hj)
          have hd6 : ∀ j ∈ D ++ [a], j < Y.length := fun j hj => (List.mem_append.1 hj).elim (hDn j) (fun h => by rw [List.mem_singleton.1 h]; exact ha)
          rw [← hnx] at hBg6 hO6 hT5 hps hf6 hd6
          have hms : Y.length - (k + 1) < Y.length - k := Nat.sub_lt_sub_left hlt (Nat.lt_succ_self k)
          refine Seg.step rfl rfl (Yd.assign rfl) ?_
          refine Seg.nil ?_
          refine At.blk ?_
          refine At.then_ ?_
          refine Cd.region ?_
          refine Seg.step rfl rfl (Yd.addI rfl rfl (by omega)) ?_
          refine Seg.step rfl rfl (Yd.move rfl) ?_
          refine Seg.nil ?_
          exact At.round (⟨F', v6, g, k + 1⟩ : GrS) (.cons rfl (.cons rfl (.cons rfl (.cons rfl (.cons rfl (.cons (congrArg (fun z => some (Value.int .i64 z)) hps.symm) (.cons rfl (.cons rfl (.cons rfl (.nil _)))))))))) ⟨⟨hlt, hT5, hg', hf6, hd6⟩, hBt6, hBg6, hlk6, ⟨hO6, hm1, hm2, hm3⟩, ⟨hK6, hxv6, hA6⟩⟩ hms
        · rw [if_neg hr, hfst] at hnx2
          have ha := hgl
          have haD := hgm
          rw [hnx2] at hnx
          refine Seg.step rfl rfl (Yd.assign rfl) ?_
          refine Seg.nil ?_
          refine At.then_ ?_
          refine Cd.seq ?_
          refine Cd.region ?_
          refine Seg.step rfl rfl (Yd.move rfl) ?_
          refine Seg.step rfl rfl (Yd.gtr rfl rfl) ?_
          refine Seg.nil ?_
          refine At.then_ ?_
          refine Cd.condk rfl (fun h43 => ?_) (fun h43 => ?_)
          · exfalso; omega
          refine Cd.skip ?_
          refine At.then_ ?_
          refine Cd.seq ?_
          refine Cd.region ?_
          refine Seg.step rfl rfl (Yd.move rfl) ?_
          refine Seg.step rfl rfl (Yd.move rfl) ?_
          obtain ⟨y, hy⟩ : ∃ y, Y[g]? = some y := ⟨_, List.getElem?_eq_getElem ha⟩
          have hl3 : ∀ w', Kept (fun r => r = bd ∨ ownP vo r) (fun r => r = bd ∨ ownP v r) w w' → Sl w' 33 (.slice al Y.length cl) Y.length (Y.flatMap cel) := fun w' h => Sl.keptP kl h hlo
          obtain ⟨d, rfl⟩ : ∃ d, al = some d := by
            obtain ⟨ao', c', e, _, _, hz⟩ := kl
            cases e
            cases al with
            | none => have := hz rfl; omega
            | some d => exact ⟨d, rfl⟩
          have hrowK : ∀ w', Kept (fun r => r = bd ∨ ownP vo r) (fun r => r = bd ∨ ownP v r) w w' → Row w' (Addr.add d (g * 33)) (cel y) := fun w' h => by
            obtain ⟨ao', c', e, _, hr, _⟩ := hl3 w' h
            cases e
            exact flat_row (cel := cel) (zs := []) celK (by simpa using hr d rfl) hy
          have hg := wts_get hy
          have hx := heldI_bd y.1.wt
          have hadd := add_any F b11 (Y.length + 1) g (-(heldI y.1.wt))
          rw [hFl] at hadd
          have hbdF := hT.bd hSb
          rw [hFl] at hbdF
          have hT' : ∀ F' : List Int, F'.length = F.length → (∀ j, j < F.length → F'.getD j 0 = F.getD j 0 + (if cov j g then -(heldI y.1.wt) else 0)) → FT (zer (wts Y) (D ++ [g])) F' := fun F' h1 h2 => by
            rw [zer_snoc (by omega) haD, hg]
            exact hT.add (by rw [zer_len]; omega) h1 h2
          have hps : pre (zer (wts Y) (D ++ [g])) Y.length = pre (zer (wts Y) D) Y.length - heldI y.1.wt := by
            rw [zer_snoc (by omega) haD, pre_set (by rw [zer_len]; omega), if_pos ha, hg, Int.sub_eq_add_neg]
          have hsz3 := hK3.size
          refine Seg.step rfl rfl (Yd.indexAddr1 rfl rfl rfl (NatOf.cast _) (by omega)) ?_
          refine Seg.store1 (k := g) (v := .bool true) rfl rfl rfl rfl rfl (Bx.ext hBg3 hE0) (by simpa [bools, flags] using ha) (fun w4 hW4 hBgx => ?_)
          have hBg4 : Keep (Bx w4 b19 (bools (flags Y.length (D ++ [g])))) := by rw [← flags_set]; exact hBgx
          clear hBgx
          have hBt4 : Keep (Bx w4 b11 (ints F)) := (Bx.ext hBt3 hE0).wr hW4 (by omega)
          have hO4 : Keep (w4.ownsRow base 44 33 v (X ++ outD Y D).length ((X ++ outD Y D).flatMap cel)) := own_wr (own_ext hO3 hE0) hW4 hn3
          have kA4 : Keep (Ext a0 w4) := Ext.wr' (Ext.trans kA3 hE0) hW4 (Nat.le_trans ha0s hw19)
          have hlk4 : Keep (LtA w4 bd vx vd o (k + 1)) := LtA.kept (by first | exact hlk3 | exact LtA.ext hlk3 hE0) (Kept.wr hW4) (by omega) (hxw.sub fun r h => by subst h; exact hw19)
          have hK4 : Keep (Kept (fun r => r = bd ∨ ownP vo r) (fun r => r = bd ∨ ownP v r) w w4) := Kept.wr_new (Kept.ext_trans hK3 hE0) hW4 hw19
          have hE0 := Ext.refl w4
          refine Seg.nil ?_
          refine At.then_ ?_
          refine Cd.seq ?_
          refine Cd.region ?_
          refine Seg.step rfl rfl (Yd.move rfl) ?_
          refine Seg.step rfl rfl (Yd.move rfl) ?_
          refine Seg.step rfl rfl (Yd.move rfl) ?_
          refine Seg.step rfl rfl (Yd.move rfl) ?_
          refine Seg.step rfl rfl (Yd.indexAddr rfl rfl rfl (NatOf.cast _) (by omega)) ?_
          refine Seg.step rfl rfl (Yd.fieldAddr rfl rfl) ?_
          refine Seg.step rfl rfl (Yd.load1 rfl rfl (hrowK _ (Kept.ext_trans hK4 hE0) 25 (.int .i64 y.1.wt) rfl)) ?_
          (refine Seg.call rfl rfl (own_of rfl) rfl (held_any _ _) ?_; rintro _ w55 ⟨rfl, hE55⟩)
          replace hW4 := Wr.trans hW4 (Ext.wr hE55 _)
          replace hE0 := Ext.trans hE0 hE55
          (refine Seg.step rfl rfl (Yd.negI rfl (by omega)) ?_)
          refine Seg.call rfl rfl (own_of rfl) rfl (hadd _ (by omega) (by omega) (Bx.ext hBt4 hE0) hbdF (by omega)) ?_
          rintro _ w5 ⟨⟨F', hBtx, hFl', hFv⟩, hW5⟩
          have hBt5 : Keep (Bx w5 b11 (ints F')) := hBtx
          clear hBtx
          have hBg5 : Keep (Bx w5 b19 (bools (flags Y.length (D ++ [g])))) := (Bx.ext hBg4 hE0).wr hW5 (by omega)
          have hO5 : Keep (w5.ownsRow base 44 33 v (X ++ outD Y D).length ((X ++ outD Y D).flatMap cel)) := own_wr (own_ext hO4 hE0) hW5 hn2
          have kA5 : Keep (Ext a0 w5) := Ext.wr' (Ext.trans kA4 hE0) hW5 (Nat.le_trans ha0s hw11)
          have hlk5 : Keep (LtA w5 bd vx vd o (k + 1)) := LtA.kept (by first | exact hlk4 | exact LtA.ext hlk4 hE0) (Kept.wr hW5) (by omega) (hxw.sub fun r h => by subst h; exact hw11)
          have hK5 : Keep (Kept (fun r => r = bd ∨ ownP vo r) (fun r => r = bd ∨ ownP v r) w w5) := Kept.wr_new (Kept.ext_trans hK4 hE0) hW5 hw11
          have hT5 := hT' F' (hFl'.trans hFl.symm) (fun j hj => hFv j (by omega))
          have hE0 := Ext.refl w5
          refine Seg.nil ?_
          refine At.then_ ?_
          refine Cd.seq ?_
          refine Cd.region ?_
          refine Seg.step rfl rfl (Yd.move rfl) ?_
          refine Seg.step rfl rfl (Yd.move rfl) ?_
          refine Seg.step rfl rfl (Yd.move rfl) ?_
          refine Seg.step rfl rfl (Yd.indexAddr rfl rfl rfl (NatOf.cast _) (by omega)) ?_
          refine Seg.step rfl rfl (Yd.fieldAddr rfl rfl) ?_
          refine Seg.step rfl rfl (Yd.load1 rfl rfl (hrowK _ (Kept.ext_trans hK5 hE0) 25 (.int .i64 y.1.wt) rfl)) ?_
          (refine Seg.call rfl rfl (own_of rfl) rfl (held_any _ _) ?_; rintro _ w66 ⟨rfl, hE66⟩)
          replace hW5 := Wr.trans hW5 (Ext.wr hE66 _)
          replace hE0 := Ext.trans hE0 hE66
          refine Seg.step rfl rfl (Yd.subI rfl rfl (by omega)) ?_
          refine Seg.step rfl rfl (Yd.assign rfl) ?_
          refine Seg.nil ?_
          refine At.then_ ?_
          refine Cd.region ?_
          refine Seg.step rfl rfl (Yd.move rfl) ?_
          refine Seg.step rfl rfl (Yd.move rfl) ?_
          refine Seg.step rfl rfl (Yd.move rfl) ?_
          refine Seg.step rfl rfl (Yd.indexAddr rfl rfl rfl (NatOf.cast _) (by omega)) ?_
          refine Seg.step rfl rfl (Yd.loadN rfl rfl rfl (hrowK _ (Kept.ext_trans hK5 hE0))) ?_
          refine Seg.buildSliceV rfl rfl rfl rfl rfl rfl rfl rfl rfl rfl (fun w77 b77 hE77 hB77 hb77 hO77 => ?_)
          have hlt77_0 := Nat.le_trans hE66.size hb77
          have hlt77_1 := Nat.le_trans hE0.size hb77
          replace hE66 := Ext.trans hE66 hE77
          replace hW5 := Wr.trans hW5 (Ext.wr hE77 _)
          replace hE0 := Ext.trans hE0 hE77
          have hln : (outD Y D).length ≤ 60 := Nat.le_trans (List.length_filterMap_le _ _) (by omega)
          have hxl : (X ++ outD Y D).length + 1 ≤ 100000000 := by rw [List.length_append]; omega
          have hszc := Nat.le_trans hK5.size (Below.size hE0)
          have hltt := (Bx.ext hBt5 hE0).lt
          have hltg := (Bx.ext hBg5 hE0).lt
          refine Seg.appendAt (news := cel y) (m' := 1) rfl rfl rfl rfl rfl rfl rfl rfl rfl (own_ext hO5 hE0) (own_sl (by assumption)) (celOne y) (Nat.le_trans hbase hszc) hxl rfl (fun v6 w6 hN hG hAt => ?_)
          have hBt6 : Bx w6 b11 (ints F') := (Bx.ext hBt5 hE0).grown hG hn2.symm
          have hBg6 : Bx w6 b19 (bools (flags Y.length (D ++ [g]))) := (Bx.ext hBg5 hE0).grown hG hn3.symm
          have hlk6 : LtA w6 bd vx vd o (k + 1) := LtA.kept (by first | exact hlk5 | exact LtA.ext hlk5 hE0) (Kept.grown hG hAt) hn1 hxv
          have hK6 : Kept (fun r => r = bd ∨ ownP vo r) (fun r => r = bd ∨ ownP v6 r) w w6 := (Kept.ext_trans hK5 hE0).trans ((Kept.grown hG hAt).mono (q := fun r => r = bd ∨ ownP v r) (q' := fun r => r = bd ∨ ownP v6 r) (fun r h => .inr h) (fun r h => h.elim (fun h => .inr (.inl h)) .inl))
          have hA6 : Ext a0 w6 := Ext.own (Ext.trans kA5 hE0) (own_ext hO5 hE0) haB hG
          have hm1 : v6.ownBlock ≠ some bd := fun h2 => hAt.elim (fun e => hn1 (e.symm.trans h2)) (fun e => by have := Option.some.inj (e.symm.trans h2); omega)
          have hm2 : v6.ownBlock ≠ some b11 := fun h2 => hAt.elim (fun e => hn2 (e.symm.trans h2)) (fun e => by have := Option.some.inj (e.symm.trans h2); omega)
          have hm3 : v6.ownBlock ≠ some b19 := fun h2 => hAt.elim (fun e => hn3 (e.symm.trans h2)) (fun e => by have := Option.some.inj (e.symm.trans h2); omega)
          have hxv6 : OffP (ownP v6) vx := fun p m c e hm hp => hAt.elim (fun e2 => hxv p m c e hm (e2.symm.trans hp)) (fun e2 => hxw p m c e hm (by have := Option.some.inj (e2.symm.trans hp); omega))
          have hO6 : w6.ownsRow base 44 33 v6 (X ++ outD Y (D ++ [g])).length ((X ++ outD Y (D ++ [g])).flatMap cel) := by
            rw [outD_snoc hy, ← List.append_assoc]
            have e1 : ((X ++ outD Y D) ++ [y]).length = (X ++ outD Y D).length + 1 := by rw [List.length_append (bs := [y])]; rfl
            have e2 : ((X ++ outD Y D) ++ [y]).flatMap cel = (X ++ outD Y D).flatMap cel ++ cel y := by rw [List.flatMap_append (ys := [y])]; simp
            rw [e1, e2]
            exact hN
          have hf6 : ∀ j, j < g → j ∈ D ++ [g] := fun j hj => List.mem_append_left _ (hgD j hj)
          have hd6 : ∀ j ∈ D ++ [g], j < Y.length := fun j hj => (List.mem_append.1 hj).elim (hDn j) (fun h => by rw [List.mem_singleton.1 h]; exact ha)
          rw [← hnx] at hBg6 hO6 hT5 hps hf6 hd6
          have hms : Y.length - (k + 1) < Y.length - k := Nat.sub_lt_sub_left hlt (Nat.lt_succ_self k)
          refine Seg.step rfl rfl (Yd.assign rfl) ?_
          refine Seg.nil ?_
          refine At.blk ?_
          refine At.then_ ?_
          refine Cd.region ?_
          refine Seg.step rfl rfl (Yd.addI rfl rfl (by omega)) ?_
          refine Seg.step rfl rfl (Yd.move rfl) ?_
          refine Seg.nil ?_
          exact At.round (⟨F', v6, g, k + 1⟩ : GrS) (.cons rfl (.cons rfl (.cons rfl (.cons rfl (.cons rfl (.cons (congrArg (fun z => some (Value.int .i64 z)) hps.symm) (.cons rfl (.cons rfl (.cons rfl (.nil _)))))))))) ⟨⟨hlt, hT5, hg', hf6, hd6⟩, hBt6, hBg6, hlk6, ⟨hO6, hm1, hm2, hm3⟩, ⟨hK6, hxv6, hA6⟩⟩ hms
    · have hkn : k = Y.length := by omega
      subst hkn
      have hDe : D = seqB o (wts Y) Y.length := hDs
      rw [hDe] at kO
      refine Cd.seq ?_
      refine Cd.region ?_
      refine Seg.step rfl rfl (Yd.lss rfl rfl) ?_
      refine Seg.nil ?_
      refine At.then_ ?_
      refine Cd.seq ?_
      refine Cd.condk rfl (fun h33 => ?_) (fun h33 => ?_)
      · exfalso; omega
      · refine Cd.exit ?_
        refine At.then_exit ?_
        refine At.then_exit ?_
        refine At.blk_same ?_
        refine At.then_ ?_
        refine Cd.seq ?_
        refine Cd.region ?_
        refine Seg.step rfl rfl (Yd.move rfl) ?_
        refine Seg.step rfl rfl (Yd.assign rfl) ?_
        refine Seg.nil ?_
        refine At.then_ ?_
        refine Cd.ret ?_
        exact At.ret Try.results27 (.tmp rfl .nil) ⟨kO, hlk, hn1, hK, hxv, kA1⟩
end Go.Proofs.Ytccppgpedlfjdaa
