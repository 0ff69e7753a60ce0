/- Targets in order: clones and sorts; the walks. -/
import Derived.Test.YtccppgpedlfjdaaGrp
namespace Go.Proofs.Ytccppgpedlfjdaa
open Go Go.RowKit
theorem sort_any (xs : List El) (zs : List Value) (b N cap : Nat) (w : World) (hN : N = xs.length) (hN' : N ≤ 1000000) (hB : Bx w b (xs.flatMap cel ++ zs)) :
    Ret Try.prog 23 #[dataV b N cap, cmpV] w fun _ w' => ∃ Y, Bx w' b (Y.flatMap cel ++ zs) ∧ Wr b w w' ∧ Srtd key Y ∧ SameBy key xs Y := by
  refine Ret.body Try.func23 rfl Try.ntmps23 rfl ?_
  refine Cd.region ?_
  refine Seg.step rfl rfl (Yd.move rfl) ?_
  refine Seg.step rfl rfl (Yd.move rfl) ?_
  refine Seg.step rfl rfl (Yd.lenS rfl rfl) ?_
  refine Seg.step rfl rfl (Yd.move rfl) ?_
  (refine Seg.call rfl rfl (own_of rfl) rfl (stb_any xs zs b N cap _ _ hN hN' hB rfl) ?_; rintro _ w6 ⟨Y, hB, hW6, hY, hYs⟩)
  refine Seg.nil ?_
  exact At.fin Try.results23 .nil ⟨Y, hB, by assumption, hY, hYs⟩
theorem ins_nil (v : Value) (w : World) : Ret Try.prog 36 #[v, .int .i64 0, .int .i64 0, cmpV] w fun _ w' => Ext w w' := by
  have hE0 := Ext.refl w
  refine Ret.body Try.func36 rfl Try.ntmps36 rfl ?_
  refine Cd.seq ?_
  refine Cd.region ?_
  refine Seg.step rfl rfl (Yd.move rfl) ?_
  refine Seg.step rfl rfl (Yd.addI rfl rfl (by omega)) ?_
  refine Seg.step rfl rfl (Yd.assign rfl) ?_
  refine Seg.nil ?_
  refine At.then_ ?_
  refine Cd.block ?_
  refine Cd.loop (σ := Unit) (fun _ => [(2, .int .i64 0), (8, .int .i64 1)]) (fun _ w' => Ext w w') (fun _ => 0) () (.cons rfl (.cons rfl (.nil _))) hE0 ?_
  clear hE0
  rintro _ w0 hE0
  refine Cd.seq ?_
  refine Cd.seq ?_
  refine Cd.region ?_
  refine Seg.step rfl rfl (Yd.move rfl) ?_
  refine Seg.step rfl rfl (Yd.move rfl) ?_
  refine Seg.step rfl rfl (Yd.lss rfl rfl) ?_
  refine Seg.nil ?_
  refine At.then_ ?_
  refine Cd.condF rfl ?_
  refine Cd.exit ?_
  refine At.then_exit ?_
  refine At.then_exit ?_
  refine At.blk_same ?_
  exact At.fin Try.results36 .nil hE0
theorem stb_nil (v : Value) (w : World) : Ret Try.prog 31 #[v, .int .i64 0, cmpV] w fun _ w' => Ext w w' := by
  have hE0 := Ext.refl w
  refine Ret.body Try.func31 rfl Try.ntmps31 rfl ?_
  refine Cd.seq ?_
  refine Cd.region ?_
  refine Seg.step rfl rfl (Yd.assign rfl) ?_
  refine Seg.nil ?_
  refine At.then_ ?_
  refine Cd.seq ?_
  refine Cd.region ?_
  refine Seg.step rfl rfl (Yd.move rfl) ?_
  refine Seg.step rfl rfl (Yd.assign rfl) ?_
  refine Seg.step rfl rfl (Yd.assign rfl) ?_
  refine Seg.nil ?_
  refine At.then_ ?_
  refine Cd.seq ?_
  refine Cd.block ?_
  refine Cd.loop (σ := Unit) (fun _ => [(0, v), (1, .int .i64 0), (2, cmpV), (6, .int .i64 20), (7, .int .i64 0), (8, .int .i64 20)]) (fun _ w' => Ext w w') (fun _ => 0) () (.cons rfl (.cons rfl (.cons rfl (.cons rfl (.cons rfl (.cons rfl (.nil _))))))) hE0 ?_
  clear hE0
  rintro _ w0 hE0
  refine Cd.seq ?_
  refine Cd.seq ?_
  refine Cd.region ?_
  refine Seg.step rfl rfl (Yd.move rfl) ?_
  refine Seg.step rfl rfl (Yd.move rfl) ?_
  refine Seg.step rfl rfl (Yd.leq rfl rfl) ?_
  refine Seg.nil ?_
  refine At.then_ ?_
  refine Cd.condF rfl ?_
  refine Cd.exit ?_
  refine At.then_exit ?_
  refine At.then_exit ?_
  refine At.blk_same ?_
  refine At.then_ ?_
  refine Cd.seq ?_
  refine Cd.region ?_
  refine Seg.step rfl rfl (Yd.move rfl) ?_
  refine Seg.step rfl rfl (Yd.move rfl) ?_
  refine Seg.step rfl rfl (Yd.move rfl) ?_
  refine Seg.step rfl rfl (Yd.move rfl) ?_
  (refine Seg.call rfl rfl (own_of rfl) rfl (ins_nil v _) ?_; rintro _ w21 hE21)
  replace hE0 := Ext.trans hE0 hE21
  refine Seg.nil ?_
  refine At.then_ ?_
  refine Cd.block ?_
  refine Cd.loop (σ := Unit) (fun _ => [(1, .int .i64 0), (6, .int .i64 20)]) (fun _ w' => Ext w w') (fun _ => 0) () (.cons rfl (.cons rfl (.nil _))) (by assumption) ?_
  clear hE0
  rintro _ w9 hE0
  refine Cd.seq ?_
  refine Cd.seq ?_
  refine Cd.region ?_
  refine Seg.step rfl rfl (Yd.move rfl) ?_
  refine Seg.step rfl rfl (Yd.move rfl) ?_
  refine Seg.step rfl rfl (Yd.lss rfl rfl) ?_
  refine Seg.nil ?_
  refine At.then_ ?_
  refine Cd.condF rfl ?_
  refine Cd.exit ?_
  refine At.then_exit ?_
  refine At.then_exit ?_
  refine At.blk_same ?_
  exact At.fin Try.results31 .nil hE0
theorem sort_nil (a : Option Addr) (c : Nat) (w : World) : Ret Try.prog 23 #[.slice a 0 c, cmpV] w fun _ w' => Ext w w' := by
  have hE0 := Ext.refl w
  refine Ret.body Try.func23 rfl Try.ntmps23 rfl ?_
  refine Cd.region ?_
  refine Seg.step rfl rfl (Yd.move rfl) ?_
  refine Seg.step rfl rfl (Yd.move rfl) ?_
  refine Seg.step rfl rfl (Yd.lenS rfl rfl) ?_
  refine Seg.step rfl rfl (Yd.move rfl) ?_
  (refine Seg.call rfl rfl (own_of rfl) rfl (stb_nil _ _) ?_; rintro _ w6 hE6)
  replace hE0 := Ext.trans hE0 hE6
  refine Seg.nil ?_
  exact At.fin Try.results23 .nil (by assumption)
theorem cels_one (xs : List El) : ∀ c ∈ xs.flatMap cel, c.oneCell' = true := fun c hc => by
  obtain ⟨x, _, hc⟩ := List.mem_flatMap.1 hc
  exact celOne x c hc
theorem clone_any (xs : List El) (v0 : Value) (w : World) (h0 : Sl w 33 v0 xs.length (xs.flatMap cel)) (hx : xs.length ≤ 1000) : Ret Try.prog 22 #[v0] w fun v w' => w'.ownsRow w.heap.size 44 33 v xs.length (xs.flatMap cel) ∧ Ext w w' := by
  have hE0 := Ext.refl w
  refine Ret.body Try.func22 rfl Try.ntmps22 rfl ?_
  obtain ⟨ao, c, rfl, hl0, hr0, hz0⟩ := id h0
  have hnil : ao.isNone = true → w.ownsRow w.heap.size 44 33 (.slice none 0 0) xs.length (xs.flatMap cel) := fun h => by
    have hao : ao = none := Option.isNone_iff_eq_none.1 h
    have hxl := hz0 hao
    have hx0 : xs = [] := List.eq_nil_of_length_eq_zero hxl
    subst hx0
    exact World.ownsRow_nil _ _ _ _
  refine Cd.seq ?_
  refine Cd.region ?_
  refine Seg.step rfl rfl (Yd.assign rfl) ?_
  refine Seg.nil ?_
  refine At.then_ ?_
  refine Cd.seq ?_
  refine Cd.seq ?_
  refine Cd.region ?_
  refine Seg.step rfl rfl (Yd.move rfl) ?_
  refine Seg.step rfl rfl (Yd.eqlNilS rfl rfl rfl) ?_
  refine Seg.nil ?_
  refine At.then_ ?_
  refine Cd.condkb rfl (fun h13 => ?_) (fun h13 => ?_)
  · refine Cd.seq ?_
    refine Cd.region ?_
    refine Seg.step rfl rfl (Yd.assign rfl) ?_
    refine Seg.nil ?_
    refine At.then_ ?_
    refine Cd.ret ?_
    refine At.then_ret ?_
    exact At.ret Try.results22 (.tmp rfl .nil) ⟨hnil (by assumption), hE0⟩
  · refine Cd.skip ?_
    refine At.then_ ?_
    refine Cd.seq ?_
    refine Cd.region ?_
    refine Seg.buildSliceV rfl rfl rfl rfl rfl rfl rfl rfl rfl rfl (fun w28 b28 hE28 hB28 hb28 hO28 => ?_)
    have hlt28_0 := Nat.le_trans hE0.size hb28
    replace hE0 := Ext.trans hE0 hE28
    replace h0 := h0.ext hE28
    refine Seg.step rfl rfl (Yd.move rfl) ?_
    (refine Seg.append0 rfl rfl rfl rfl rfl rfl rfl rfl rfl (by assumption) h0 (cels_one xs) (Below.size (by assumption)) (by omega) rfl (fun v30 w30 hO30 hW30 _ => ?_); obtain ⟨ao30, c30, rfl⟩ := own_shape hO30)
    replace hE28 := Ext.wr' hE28 hW30 (by omega)
    replace hE0 := Ext.wr' hE0 hW30 (by omega)
    refine Seg.step rfl rfl (Yd.assign rfl) ?_
    refine Seg.nil ?_
    refine At.then_ ?_
    refine Cd.ret ?_
    exact At.ret Try.results22 (.tmp rfl .nil) ⟨by assumption, hE0⟩
/-- How long the run of the first one's priority is. -/
def runL : List El → Nat
  | [] => 0
  | y :: Y => ((y :: Y).takeWhile fun z => decide (z.1.pri = y.1.pri)).length
def shO (o : Option (List Int × Nat)) (k : Nat) : Option (List Int × Nat) := o.map fun x => (x.1, x.2 + k)
/-- Groups, one behind the other, as they are drawn. -/
def ordG (o : Option (List Int × Nat)) : Nat → List El → List El
  | 0, _ => []
  | _, [] => []
  | n + 1, y :: Y => outD ((y :: Y).take (runL (y :: Y))) (seqB o (wts ((y :: Y).take (runL (y :: Y)))) (runL (y :: Y))) ++ ordG (shO o (runL (y :: Y))) n ((y :: Y).drop (runL (y :: Y)))
theorem Seg.makeOwn {P : Program} [Tys P] {n : Nat} {ops : Array Oper} {Q : Exit → Act → World → Prop} {fr : Fr} {w : World} {T : TypeId} {d : Nat} {U e s by' m : Nat} {x y : Operand} {k1 k2 : IntKind} {pos : String} {aft : Array Edge} {g : Option (Nat × Bool)} {rest : List Oper} {z : Value}
    (hg : gd ops fr g = some true) (hd : Nat.blt d n = true) (hf : slOf P U = some (e, s + 1)) (hz : zerOf P e = some z) (hby : byOf P e = some by') (hsz : szOf P e = some (s + 1))
    (hx : Fr.ev fr x = some (.int k1 0)) (hy : Fr.ev fr y = some (.int k2 (m : Nat))) (hm : m ≤ 1000000 ∧ by' ≤ 1000000)
    (k : ∀ w1 b, w1.ownsRow w.heap.size e (s + 1) (.slice (some ⟨b, 0, none⟩) 0 m) 0 [] → Ext w w1 → b = w.heap.size → Seg P n ops Q rest ((d, .slice (some ⟨b, 0, none⟩) 0 m) :: fr) w1) :
    Seg P n ops Q (⟨some d, .makeSlice U x y, T, pos, aft, g⟩ :: rest) fr w := by
  obtain ⟨i, h1, h2, h3, h4⟩ := info_all hby hsz hz
  have hb : i.bytes * m ≤ 281474976710656 := by
    have h5 : i.bytes * m ≤ 1000000 * 1000000 := Nat.mul_le_mul (by omega) hm.1
    omega
  obtain ⟨w1, hr, ho, hgr⟩ := run_make_own (P := P) (w := w) w.heap.size U e i z (s + 1) (und_sl hf).1 h1 h4 h3 k1 k2 m hb (by unfold maxLen; omega) (Nat.le_refl _)
  have hE : Ext w w1 := Below.grown (Ext.refl w) hgr (Nat.le_refl _) (fun k hk => by cases hk)
  refine Seg.step (v := .slice (some ⟨w.heap.size, 0, none⟩) 0 m) (w' := w1) hg hd (.val fun a ha d pos aft g => ?_) (k _ _ ho hE rfl)
  simp only [execOp, ha.ev hx, ha.ev hy]
  rw [Sem.run_bind, hr]
  rfl
theorem ltA_sh {w : World} {bd k : Nat} {vx vd : Value} {o : Option (List Int × Nat)} {j : Nat} : LtA w bd vx vd (shO o k) j ↔ LtA w bd vx vd o (k + j) := by
  cases o with
  | none => exact Iff.rfl
  | some o =>
    obtain ⟨xs, u⟩ := o
    show LtA w bd vx vd (some (xs, u + k)) j ↔ LtA w bd vx vd (some (xs, u)) (k + j)
    have e : u + k + j = u + (k + j) := Nat.add_assoc _ _ _
    show (vd = _ ∧ Bx w bd [vx, .int .i64 ((u + k + j : Nat) : Int)] ∧ Sl w 1 vx xs.length (ints xs) ∧ OffP (fun r => r = bd) vx ∧ u + k + j < 1000000) ↔ _
    rw [e]
    exact Iff.rfl
theorem shO_sh (o : Option (List Int × Nat)) (k j : Nat) : shO (shO o k) j = shO o (k + j) := by
  cases o with
  | none => rfl
  | some o => simp [shO, Nat.add_assoc]
theorem shO_zero (o : Option (List Int × Nat)) : shO o 0 = o := by
  cases o with
  | none => rfl
  | some o => simp [shO]
theorem take_len {E : Type} {p : E → Bool} : ∀ {l : List E} {t : Nat}, t ≤ l.length → (∀ j z, j < t → l[j]? = some z → p z = true) → (∀ z, l[t]? = some z → p z = false) → (l.takeWhile p).length = t
  | [], 0, _, _, _ => rfl
  | [], t + 1, h, _, _ => by simp at h
  | x :: l, 0, _, _, h => by rw [List.takeWhile_cons, if_neg (by rw [h x rfl]; simp)]; rfl
  | x :: l, t + 1, ht, h1, h2 => by
    rw [List.takeWhile_cons, if_pos (h1 0 x (Nat.succ_pos _) rfl), List.length_cons, take_len (l := l) (t := t) (by simpa using ht) (fun j z hj hz => h1 (j + 1) z (by omega) (by simpa using hz)) (fun z hz => h2 z (by simpa using hz))]
theorem ordG_step (o : Option (List Int × Nat)) {m i t : Nat} {Y : List El} {y : El} (hy : Y[i]? = some y) (hm : (Y.drop i).length ≤ m) (ht : i < t) (htl : t ≤ Y.length) (h1 : ∀ j z, i ≤ j → j < t → Y[j]? = some z → z.1.pri = y.1.pri) (h2 : ∀ z, Y[t]? = some z → ¬ z.1.pri = y.1.pri) :
    ordG (shO o i) m (Y.drop i) = outD ((Y.drop i).take (t - i)) (seqB (shO o i) (wts ((Y.drop i).take (t - i))) (t - i)) ++ ordG (shO o t) (m - 1) (Y.drop t) := by
  obtain ⟨hi, he⟩ := List.getElem?_eq_some_iff.1 hy
  have hd : Y.drop i = y :: Y.drop (i + 1) := by rw [List.drop_eq_getElem_cons hi, he]
  have hr : runL (Y.drop i) = t - i := by
    have h3 := take_len (p := fun z : El => decide (z.1.pri = y.1.pri)) (l := Y.drop i) (t := t - i) (by rw [List.length_drop]; omega) (fun j z hj hz => by
      rw [List.getElem?_drop] at hz
      exact decide_eq_true (h1 (i + j) z (by omega) (by omega) hz)) (fun z hz => by
      rw [List.getElem?_drop, show i + (t - i) = t by omega] at hz
      exact decide_eq_false (h2 z hz))
    rw [hd] at h3 ⊢
    exact h3
  have hm0 : 0 < m := by rw [hd] at hm; simp at hm; omega
  obtain ⟨m, rfl⟩ : ∃ m', m = m' + 1 := ⟨m - 1, by omega⟩
  rw [hd] at hr ⊢
  rw [ordG, hr, shO_sh, ← hd, List.drop_drop, show i + (t - i) = t by omega]
  rfl
theorem own_low {w : World} {base base' e k m : Nat} {v : Value} {cs : List Value} (h : w.ownsRow base e k v m cs) (hb : base' ≤ base) : w.ownsRow base' e k v m cs := by
  obtain ⟨h1, h2⟩ := h
  refine ⟨h1, ?_⟩
  rcases h2 with h2 | ⟨g, cap, cur, rfl, h3, h4⟩
  · exact .inl h2
  · exact .inr ⟨g, cap, cur, rfl, Nat.le_trans hb h3, h4⟩
theorem own_cap {w : World} {base e k m : Nat} {v : Value} {cs : List Value} (h : w.ownsRow base e k v m cs) : ∀ a m' c, v = .slice a m' c → m' ≤ c := fun a m' c hv => by
  rcases h.2 with ⟨rfl, rfl⟩ | ⟨g, cap, cur, rfl, _, _, hn, _⟩
  · cases hv; exact Nat.le_refl _
  · cases hv; exact hn
theorem flat_dropE : ∀ (Y : List El) (i : Nat), (Y.flatMap cel).drop (i * 33) = (Y.drop i).flatMap cel
  | [], i => by simp
  | y :: Y, 0 => by simp
  | y :: Y, i + 1 => by
    rw [List.flatMap_cons, Nat.succ_mul, Nat.add_comm (i * 33) 33, ← List.drop_drop, List.drop_left' (celK y), flat_dropE Y i]
    rfl
theorem flat_takeE : ∀ (Y : List El) (i : Nat), (Y.flatMap cel).take (i * 33) = (Y.take i).flatMap cel
  | [], i => by simp
  | y :: Y, 0 => by simp
  | y :: Y, i + 1 => by
    rw [List.flatMap_cons, List.take_succ_cons, List.flatMap_cons, Nat.succ_mul, Nat.add_comm (i * 33) 33, ← celK y, List.take_length_add_append, celK y, flat_takeE Y i]
structure OrS where
  X : List El
  v : Value
  i : Nat
  m : Nat
theorem order_any (o : Option (List Int × Nat)) (a0 : World) (xs : List El) (v0 vx vd : Value) (bd : Nat) (w : World) (h0 : Sl w 33 v0 xs.length (xs.flatMap cel)) (hx : xs.length ≤ 60) (hbd : bd < w.heap.size) (hlot : LtA w bd vx vd o 0) (hu : ∀ xs' u, o = some (xs', u) → u + 60 < 1000000) (hxw : OffP (fun r => w.heap.size ≤ r) vx) (hxb : OffP (fun r => r = bd) vx) (ha0 : Ext a0 w) (hab : a0.heap.size ≤ bd) :
    Ret Try.prog 14 #[v0, vd] w fun v w' => ∃ Y, Srtd key Y ∧ SameBy key xs Y ∧ w'.ownsRow w.heap.size 44 33 v (ordG o Y.length Y).length ((ordG o Y.length Y).flatMap cel) ∧ Kept (fun r => r = bd) (fun r => r = bd ∨ ownP v r) w w' ∧ Ext a0 w' := by
  have kA0 : Keep (Ext a0 w) := ha0
  have ha0s := ha0.size
  clear ha0
  have hE0 := Ext.refl w
  have kh : Keep (LtA w bd vx vd o 0) := hlot
  refine Ret.body Try.func14 rfl Try.ntmps14 rfl ?_
  by_cases hx0 : 0 < xs.length
  · refine Cd.seq ?_
    refine Cd.region ?_
    refine Seg.step rfl rfl (Yd.assign rfl) ?_
    refine Seg.nil ?_
    refine At.then_ ?_
    refine Cd.seq ?_
    refine Cd.region ?_
    refine Seg.step rfl rfl (Yd.move rfl) ?_
    (refine Seg.call rfl rfl (own_of rfl) rfl (clone_any xs v0 _ h0 (by omega)) ?_; rintro _ w9 ⟨hO9, hE9⟩; have hcp := own_cap hO9; obtain ⟨gb, gc, zs, rfl, hgb, hBs⟩ := own_bx hO9 hx0; clear hO9; have hgc := hcp _ _ _ rfl; have hgl := hBs.lt)
    replace h0 := h0.ext hE9
    replace hlot := hlot.ext hE9
    replace hE0 := Ext.trans hE0 hE9
    refine Seg.step rfl rfl (Yd.assign rfl) ?_
    refine Seg.nil ?_
    refine At.then_ ?_
    refine Cd.seq ?_
    refine Cd.region ?_
    refine Seg.step rfl rfl (Yd.move rfl) ?_
    (refine Seg.call rfl rfl (own_of rfl) rfl (sort_any xs zs gb xs.length gc _ rfl (by omega) hBs) ?_; rintro _ w16 ⟨Y, hBs, hW16, hY, hYs⟩; have hE16 := Ext.wr' (by assumption : Ext w _) hW16 hgb; have hYl := hYs.len; have hgl2 := hBs.lt)
    refine Seg.nil ?_
    refine At.then_ ?_
    refine Cd.seq ?_
    refine Cd.region ?_
    refine Seg.step rfl rfl (Yd.move rfl) ?_
    refine Seg.step rfl rfl (Yd.lenS rfl rfl) ?_
    (refine Seg.makeOwn (m := xs.length) rfl rfl rfl rfl rfl rfl rfl rfl ⟨by omega, by decide⟩ (fun w23 b23 hOm hE23 hb23 => ?_); have hEw := Ext.trans (by assumption : Ext w _) hE23)
    refine Seg.step rfl rfl (Yd.assign rfl) ?_
    refine Seg.nil ?_
    refine At.then_ ?_
    refine Cd.seq ?_
    refine Cd.seq ?_
    refine Cd.region ?_
    refine Seg.step rfl rfl (Yd.assign rfl) ?_
    refine Seg.nil ?_
    refine At.then_ ?_
    refine Cd.block ?_
    have hEm : Keep (Ext w w23) := hEw
    have hgb23 : gb < b23 := by omega
    have hw23 : w.heap.size ≤ b23 := by omega
    have hEm' : Ext w w23 := hEm
    have hlk0 := LtA.ext kh hEm
    clear hlot h0
    refine Cd.loop (σ := OrS) (fun t => [(1, vd), (5, .slice (some ⟨gb, 0, none⟩) xs.length gc), (6, t.v), (7, .int .i64 (t.i : Int))])
      (fun t w' => (t.i ≤ Y.length ∧ t.X.length ≤ t.i ∧ t.X ++ ordG (shO o t.i) t.m (Y.drop t.i) = ordG o Y.length Y ∧ (Y.drop t.i).length ≤ t.m) ∧ LtA w' bd vx vd o t.i ∧
        (w'.ownsRow w.heap.size 44 33 t.v t.X.length (t.X.flatMap cel) ∧ t.v.ownBlock ≠ some bd ∧ t.v.ownBlock ≠ some gb) ∧ Bx w' gb (Y.flatMap cel ++ zs) ∧ Kept (fun r => r = bd) (fun r => r = bd ∨ ownP t.v r) w w' ∧ Ext a0 w') (fun t => Y.length - t.i) ⟨[], .slice (some ⟨b23, 0, none⟩) 0 xs.length, 0, Y.length⟩ (.cons rfl (.cons rfl (.cons rfl (.cons rfl (.nil _)))))
      ⟨⟨Nat.zero_le _, Nat.le_refl _, by show [] ++ ordG (shO o 0) Y.length (Y.drop 0) = _; rw [shO_zero, List.drop_zero, List.nil_append], by show (Y.drop 0).length ≤ _; rw [List.drop_zero]; exact Nat.le_refl _⟩, hlk0, ⟨own_low hOm (Nat.le_of_lt (by omega)), (fun h => by have : b23 = bd := Option.some.inj h; omega), (fun h => by have : b23 = gb := Option.some.inj h; omega)⟩, by first | exact hBs | exact hBs.ext hE23, ⟨hEm'.size, fun b hb _ => hEm'.block b hb, fun b h => h.elim .inl (fun h => .inr (by have : b23 = b := Option.some.inj h; omega))⟩, Ext.trans kA0 hEm⟩ ?_
    clear hlk0 hOm hBs hE23
    rintro ⟨X, v, i, m⟩ w1 ⟨⟨hi, hXi, hG, hm⟩, hlk, ⟨hO, hn1, hn2⟩, hBg, hK, hA1⟩
    simp only at hi hXi hG hm hlk hO hn1 hn2 hK ⊢
    have kA1 : Keep (Ext a0 w1) := hA1
    clear hA1
    have hE0 := Ext.refl w1
    have hlk : Keep (LtA w1 bd vx vd o i) := hlk
    have hK : Keep (Kept (fun r => r = bd) (fun r => r = bd ∨ ownP v r) w w1) := hK
    have hO : Keep (w1.ownsRow w.heap.size 44 33 v X.length (X.flatMap cel)) := hO
    have kBg : Keep (Bx w1 gb (Y.flatMap cel ++ zs)) := hBg
    clear hBg
    by_cases hlt : i < Y.length
    · obtain ⟨y, hy⟩ : ∃ y, Y[i]? = some y := ⟨_, List.getElem?_eq_getElem hlt⟩
      have hlI : (i : Int) < (xs.length : Int) := by omega
      refine Cd.seq ?_
      refine Cd.seq ?_
      refine Cd.region ?_
      refine Seg.step rfl rfl (Yd.move rfl) ?_
      refine Seg.step rfl rfl (Yd.move rfl) ?_
      refine Seg.step rfl rfl (Yd.lenS rfl rfl) ?_
      refine Seg.step rfl rfl (Yd.lss rfl rfl) ?_
      refine Seg.nil ?_
      refine At.then_ ?_
      refine Cd.condk rfl (fun h33 => ?_) (fun h33 => ?_)
      rotate_left 1
      · exfalso; omega
      rotate_right 1
      refine Cd.skip ?_
      refine At.then_ ?_
      refine Cd.block ?_
      refine Cd.seq ?_
      refine Cd.region ?_
      refine Seg.step rfl rfl (Yd.move rfl) ?_
      refine Seg.step rfl rfl (Yd.assign rfl) ?_
      refine Seg.nil ?_
      refine At.then_ ?_
      refine Cd.seq ?_
      refine Cd.block ?_
      refine Cd.loop (σ := Nat) (fun t => [(1, vd), (5, .slice (some ⟨gb, 0, none⟩) xs.length gc), (6, v), (7, .int .i64 (i : Int)), (8, .int .i64 (t : Int))])
        (fun t w' => (i ≤ t ∧ t ≤ Y.length ∧ ∀ j z, i ≤ j → j < t → Y[j]? = some z → z.1.pri = y.1.pri) ∧ Ext w1 w') (fun t => Y.length - t) i (.cons rfl (.cons rfl (.cons rfl (.cons rfl (.cons rfl (.nil _)))))) ⟨⟨Nat.le_refl _, hi, fun j z h1 h2 => by omega⟩, by assumption⟩ ?_
      clear hE0
      rintro t w2 ⟨⟨hit, htl, hpr⟩, hE0⟩
      have hry := cur_row (Bx.ext kBg hE0) hy
      by_cases htlt : t < Y.length
      · obtain ⟨z, hz⟩ : ∃ z, Y[t]? = some z := ⟨_, List.getElem?_eq_getElem htlt⟩
        have hrz := cur_row (Bx.ext kBg hE0) hz
        by_cases hpz : z.1.pri = y.1.pri
        · refine Cd.seq ?_
          refine Cd.seq ?_
          refine Cd.quiet (by kernel_rfl) (by kernel_rfl) ?_
          refine SegQ.step rfl rfl (fun w' hw' => Yd.move rfl) ?_
          refine SegQ.step rfl rfl (fun w' hw' => Yd.move rfl) ?_
          refine SegQ.step rfl rfl (fun w' hw' => Yd.lenS rfl rfl) ?_
          refine SegQ.step rfl rfl (fun w' hw' => Yd.lss rfl rfl) ?_
          refine SegQ.step rfl rfl (fun w' hw' => Yd.move rfl) ?_
          refine SegQ.gsplitp rfl rfl (fun h42 => ?_) (fun h42 => ?_)
          · refine SegQ.step rfl rfl (fun w' hw' => Yd.move rfl) ?_
            refine SegQ.step rfl rfl (fun w' hw' => Yd.move rfl) ?_
            refine SegQ.step rfl rfl (fun w' hw' => Yd.indexAddr rfl rfl rfl (NatOf.cast _) (by omega)) ?_
            refine SegQ.step rfl rfl (fun w' hw' => Yd.fieldAddr rfl rfl) ?_
            refine SegQ.step rfl rfl (fun w' hw' => Yd.load1 rfl rfl ((hrz.ext hw') 24 (.int .i64 z.1.pri) rfl)) ?_
            refine SegQ.step rfl rfl (fun w' hw' => Yd.move rfl) ?_
            refine SegQ.step rfl rfl (fun w' hw' => Yd.move rfl) ?_
            refine SegQ.step rfl rfl (fun w' hw' => Yd.indexAddr rfl rfl rfl (NatOf.cast _) (by omega)) ?_
            refine SegQ.step rfl rfl (fun w' hw' => Yd.fieldAddr rfl rfl) ?_
            refine SegQ.step rfl rfl (fun w' hw' => Yd.load1 rfl rfl ((hry.ext hw') 24 (.int .i64 y.1.pri) rfl)) ?_
            refine SegQ.step rfl rfl (fun w' hw' => Yd.eql rfl rfl) ?_
            refine SegQ.step rfl rfl (fun w' hw' => Yd.pickT rfl rfl) ?_
            refine SegQ.nil fun w56 hE56 => ?_
            replace hE0 := Ext.trans hE0 hE56
            replace hry := hry.ext hE56
            replace hrz := hrz.ext hE56
            refine At.then_ ?_
            refine Cd.condk rfl (fun h58 => ?_) (fun h58 => ?_)
            · refine Cd.skip ?_
              refine At.then_ ?_
              refine Cd.block ?_
              refine Cd.region ?_
              refine Seg.step rfl rfl (Yd.move rfl) ?_
              refine Seg.step rfl rfl (Yd.addI rfl rfl (by omega)) ?_
              refine Seg.step rfl rfl (Yd.assign rfl) ?_
              refine Seg.nil ?_
              refine At.blk ?_
              exact At.round (t + 1) (.cons rfl (.cons rfl (.cons rfl (.cons rfl (.cons rfl (.nil _)))))) ⟨⟨by omega, htlt, fun j z' h1 h2 h3 => (Nat.lt_succ_iff_lt_or_eq.1 h2).elim (fun h => hpr j z' h1 h h3) (fun h => by subst h; rw [hz] at h3; cases h3; exact hpz)⟩, hE0⟩ (Nat.sub_lt_sub_left htlt (Nat.lt_succ_self t))
            · exfalso; omega
          · exfalso; omega
        · have hit' : i < t := by
            rcases Nat.lt_or_ge i t with h | h
            · exact h
            · have hti : t = i := by omega
              rw [hti, hy] at hz; cases hz; exact absurd rfl hpz
          have hend : ∀ z', Y[t]? = some z' → ¬ z'.1.pri = y.1.pri := fun z' h => by rw [hz] at h; cases h; exact hpz
          have hst := ordG_step o hy hm hit' htl hpr hend
          rw [hst] at hG
          have hnl : ((Y.drop i).take (t - i)).length = t - i := by rw [List.length_take, List.length_drop]; omega
          refine Cd.seq ?_
          refine Cd.seq ?_
          refine Cd.quiet (by kernel_rfl) (by kernel_rfl) ?_
          refine SegQ.step rfl rfl (fun w' hw' => Yd.move rfl) ?_
          refine SegQ.step rfl rfl (fun w' hw' => Yd.move rfl) ?_
          refine SegQ.step rfl rfl (fun w' hw' => Yd.lenS rfl rfl) ?_
          refine SegQ.step rfl rfl (fun w' hw' => Yd.lss rfl rfl) ?_
          refine SegQ.step rfl rfl (fun w' hw' => Yd.move rfl) ?_
          refine SegQ.gsplitp rfl rfl (fun h42 => ?_) (fun h42 => ?_)
          rotate_left 1
          · exfalso; omega
          rotate_right 1
          refine SegQ.step rfl rfl (fun w' hw' => Yd.move rfl) ?_
          refine SegQ.step rfl rfl (fun w' hw' => Yd.move rfl) ?_
          refine SegQ.step rfl rfl (fun w' hw' => Yd.indexAddr rfl rfl rfl (NatOf.cast _) (by omega)) ?_
          refine SegQ.step rfl rfl (fun w' hw' => Yd.fieldAddr rfl rfl) ?_
          refine SegQ.step rfl rfl (fun w' hw' => Yd.load1 rfl rfl ((hrz.ext hw') 24 (.int .i64 z.1.pri) rfl)) ?_
          refine SegQ.step rfl rfl (fun w' hw' => Yd.move rfl) ?_
          refine SegQ.step rfl rfl (fun w' hw' => Yd.move rfl) ?_
          refine SegQ.step rfl rfl (fun w' hw' => Yd.indexAddr rfl rfl rfl (NatOf.cast _) (by omega)) ?_
          refine SegQ.step rfl rfl (fun w' hw' => Yd.fieldAddr rfl rfl) ?_
          refine SegQ.step rfl rfl (fun w' hw' => Yd.load1 rfl rfl ((hry.ext hw') 24 (.int .i64 y.1.pri) rfl)) ?_
          refine SegQ.step rfl rfl (fun w' hw' => Yd.eql rfl rfl) ?_
          refine SegQ.step rfl rfl (fun w' hw' => Yd.pickT rfl rfl) ?_
          refine SegQ.nil fun w56 hE56 => ?_
          replace hE0 := Ext.trans hE0 hE56
          replace hry := hry.ext hE56
          replace hrz := hrz.ext hE56
          refine At.then_ ?_
          refine Cd.condk rfl (fun h58 => ?_) (fun h58 => ?_)
          · exfalso; omega
          refine Cd.exit ?_
          refine At.then_exit ?_
          refine At.then_exit ?_
          refine At.blk_same ?_
          refine At.then_ ?_
          refine Cd.seq ?_
          refine Cd.region ?_
          refine Seg.step rfl rfl (Yd.move rfl) ?_
          refine Seg.step rfl rfl (Yd.move rfl) ?_
          refine Seg.step rfl rfl (Yd.move rfl) ?_
          refine Seg.step rfl rfl (Yd.move rfl) ?_
          (refine Seg.step rfl rfl (Yd.slSl rfl rfl rfl rfl (NatOf.cast i) (NatOf.cast t) hit (by omega)) ?_)
          refine Seg.step rfl rfl (Yd.move rfl) ?_
          have hgrp := fun wc => group_any (shO o i) a0 wc v vx vd bd w.heap.size X ((Y.drop i).take (t - i)) (if gc = i then some ⟨gb, 0, none⟩ else some (Addr.add ⟨gb, 0, none⟩ (i * 33))) (gc - i)
          rw [hnl] at hgrp
          have hszw := Nat.le_trans hK.size (Below.size hE0)
          have hB2 := Bx.ext kBg hE0
          have hlt2 := hB2.lt
          have hcut : ∀ wc, Bx wc gb (Y.flatMap cel ++ zs) → Sl wc 33 (sliced (some ⟨gb, 0, none⟩) i t gc 33) (t - i) (((Y.drop i).take (t - i)).flatMap cel) := fun wc hB => by
            have hsl0 : Sl wc 33 (.slice (some ⟨gb, 0, none⟩) Y.length gc) Y.length (Y.flatMap cel) := ⟨_, _, rfl, flat_len celK _, fun a ha => by
              cases ha
              have h := hB.row.take (Y.length * 33)
              rwa [List.take_left' (flat_len celK _)] at h, fun h => by cases h⟩
            have hcut := Sl.cut hsl0 hit htl (by omega)
            rwa [flat_dropE, flat_takeE] at hcut
          have hoff : OffP (fun r => r = bd ∨ ownP v r) (.slice (if gc = i then some ⟨gb, 0, none⟩ else some (Addr.add ⟨gb, 0, none⟩ (i * 33))) (t - i) (gc - i)) := fun a m' c e _ hp => by
            have hab : a.block = gb := by
              rw [if_neg (by omega)] at e
              cases e
              unfold Addr.add; split <;> rfl
            rw [hab] at hp
            exact hp.elim (fun h => by omega) (fun h => hn2 h)
          refine Seg.call rfl rfl (own_of rfl) rfl (hgrp _ (by omega) (by omega) (hcut _ hB2) (by omega) hszw (ltA_sh.2 (by first | exact hlk | exact LtA.ext hlk hE0)) (fun xs' u h => by
            obtain ⟨xq, hq, he⟩ := Option.map_eq_some_iff.1 h
            cases he
            have := hu xq.1 xq.2 hq
            omega) (own_ext hO hE0) hn1 hoff (hxw.sub fun r h => (World.ownsRow.lt hO r h).1) (hxw.sub fun r h => Nat.le_trans hszw h) (Ext.trans kA1 hE0) hab ha0s) ?_
          rintro v3 w3 ⟨hO3, hlk3, hn13, hK3, hxv3, hA3⟩
          have hlk4 := ltA_sh.1 hlk3
          rw [show i + (t - i) = t by omega] at hlk4
          have hB3 : Bx w3 gb (Y.flatMap cel ++ zs) := hB2.keeps (hK3.block gb hlt2 (fun h => h.elim (fun h => by omega) (fun h => hn2 h)))
          have hn23 : v3.ownBlock ≠ some gb := fun h => (hK3.own gb (.inr h)).elim (fun h => h.elim (fun h => by omega) (fun h => hn2 h)) (fun h => by omega)
          have hK4 := (Kept.ext_trans hK hE0).trans hK3
          have hXl3 : (X ++ outD ((Y.drop i).take (t - i)) (seqB (shO o i) (wts ((Y.drop i).take (t - i))) (t - i))).length ≤ t := by
            have h1 : (outD ((Y.drop i).take (t - i)) (seqB (shO o i) (wts ((Y.drop i).take (t - i))) (t - i))).length ≤ t - i := Nat.le_trans (List.length_filterMap_le _ _) (Nat.le_of_eq (seq_len _ _ _))
            rw [List.length_append]; omega
          have hdl : (Y.drop t).length ≤ m - 1 := by rw [List.length_drop] at hm ⊢; omega
          rw [← List.append_assoc] at hG
          generalize outD ((Y.drop i).take (t - i)) (seqB (shO o i) (wts ((Y.drop i).take (t - i))) (t - i)) = Z at hO3 hXl3 hG
          clear hlk3 hgrp hcut hoff hO hlk kBg
          have hms : Y.length - t < Y.length - i := by omega
          refine Seg.step rfl rfl (Yd.assign rfl) ?_
          refine Seg.nil ?_
          refine At.then_ ?_
          refine Cd.region ?_
          refine Seg.step rfl rfl (Yd.move rfl) ?_
          refine Seg.step rfl rfl (Yd.assign rfl) ?_
          refine Seg.nil ?_
          refine At.blk ?_
          exact At.round (⟨X ++ Z, v3, t, m - 1⟩ : OrS) (.cons rfl (.cons rfl (.cons rfl (.cons rfl (.nil _))))) ⟨⟨htl, hXl3, hG, hdl⟩, hlk4, ⟨hO3, hn13, hn23⟩, hB3, hK4, hA3⟩ hms
      · have hit' : i < t := by omega
        have hend : ∀ z', Y[t]? = some z' → ¬ z'.1.pri = y.1.pri := fun z' h => by
          have := (List.getElem?_eq_some_iff.1 h).1
          omega
        have hst := ordG_step o hy hm hit' htl hpr hend
        rw [hst] at hG
        have hnl : ((Y.drop i).take (t - i)).length = t - i := by rw [List.length_take, List.length_drop]; omega
        refine Cd.seq ?_
        refine Cd.seq ?_
        refine Cd.quiet (by kernel_rfl) (by kernel_rfl) ?_
        refine SegQ.step rfl rfl (fun w' hw' => Yd.move rfl) ?_
        refine SegQ.step rfl rfl (fun w' hw' => Yd.move rfl) ?_
        refine SegQ.step rfl rfl (fun w' hw' => Yd.lenS rfl rfl) ?_
        refine SegQ.step rfl rfl (fun w' hw' => Yd.lss rfl rfl) ?_
        refine SegQ.step rfl rfl (fun w' hw' => Yd.move rfl) ?_
        refine SegQ.gsplitp rfl rfl (fun h42 => ?_) (fun h42 => ?_)
        · exfalso; omega
        refine SegQ.skip rfl rfl ?_
        refine SegQ.skip rfl rfl ?_
        refine SegQ.skip rfl rfl ?_
        refine SegQ.skip rfl rfl ?_
        refine SegQ.skip rfl rfl ?_
        refine SegQ.skip rfl rfl ?_
        refine SegQ.skip rfl rfl ?_
        refine SegQ.skip rfl rfl ?_
        refine SegQ.skip rfl rfl ?_
        refine SegQ.skip rfl rfl ?_
        refine SegQ.skip rfl rfl ?_
        refine SegQ.step rfl rfl (fun w' hw' => Yd.pickF rfl rfl) ?_
        refine SegQ.nil fun w56 hE56 => ?_
        replace hE0 := Ext.trans hE0 hE56
        replace hry := hry.ext hE56
        refine At.then_ ?_
        refine Cd.condF rfl ?_
        refine Cd.exit ?_
        refine At.then_exit ?_
        refine At.then_exit ?_
        refine At.blk_same ?_
        refine At.then_ ?_
        refine Cd.seq ?_
        refine Cd.region ?_
        refine Seg.step rfl rfl (Yd.move rfl) ?_
        refine Seg.step rfl rfl (Yd.move rfl) ?_
        refine Seg.step rfl rfl (Yd.move rfl) ?_
        refine Seg.step rfl rfl (Yd.move rfl) ?_
        (refine Seg.step rfl rfl (Yd.slSl rfl rfl rfl rfl (NatOf.cast i) (NatOf.cast t) hit (by omega)) ?_)
        refine Seg.step rfl rfl (Yd.move rfl) ?_
        have hgrp := fun wc => group_any (shO o i) a0 wc v vx vd bd w.heap.size X ((Y.drop i).take (t - i)) (if gc = i then some ⟨gb, 0, none⟩ else some (Addr.add ⟨gb, 0, none⟩ (i * 33))) (gc - i)
        rw [hnl] at hgrp
        have hszw := Nat.le_trans hK.size (Below.size hE0)
        have hB2 := Bx.ext kBg hE0
        have hlt2 := hB2.lt
        have hcut : ∀ wc, Bx wc gb (Y.flatMap cel ++ zs) → Sl wc 33 (sliced (some ⟨gb, 0, none⟩) i t gc 33) (t - i) (((Y.drop i).take (t - i)).flatMap cel) := fun wc hB => by
          have hsl0 : Sl wc 33 (.slice (some ⟨gb, 0, none⟩) Y.length gc) Y.length (Y.flatMap cel) := ⟨_, _, rfl, flat_len celK _, fun a ha => by
            cases ha
            have h := hB.row.take (Y.length * 33)
            rwa [List.take_left' (flat_len celK _)] at h, fun h => by cases h⟩
          have hcut := Sl.cut hsl0 hit htl (by omega)
          rwa [flat_dropE, flat_takeE] at hcut
        have hoff : OffP (fun r => r = bd ∨ ownP v r) (.slice (if gc = i then some ⟨gb, 0, none⟩ else some (Addr.add ⟨gb, 0, none⟩ (i * 33))) (t - i) (gc - i)) := fun a m' c e _ hp => by
          have hab : a.block = gb := by
            rw [if_neg (by omega)] at e
            cases e
            unfold Addr.add; split <;> rfl
          rw [hab] at hp
          exact hp.elim (fun h => by omega) (fun h => hn2 h)
        refine Seg.call rfl rfl (own_of rfl) rfl (hgrp _ (by omega) (by omega) (hcut _ hB2) (by omega) hszw (ltA_sh.2 (by first | exact hlk | exact LtA.ext hlk hE0)) (fun xs' u h => by
          obtain ⟨xq, hq, he⟩ := Option.map_eq_some_iff.1 h
          cases he
          have := hu xq.1 xq.2 hq
          omega) (own_ext hO hE0) hn1 hoff (hxw.sub fun r h => (World.ownsRow.lt hO r h).1) (hxw.sub fun r h => Nat.le_trans hszw h) (Ext.trans kA1 hE0) hab ha0s) ?_
        rintro v3 w3 ⟨hO3, hlk3, hn13, hK3, hxv3, hA3⟩
        have hlk4 := ltA_sh.1 hlk3
        rw [show i + (t - i) = t by omega] at hlk4
        have hB3 : Bx w3 gb (Y.flatMap cel ++ zs) := hB2.keeps (hK3.block gb hlt2 (fun h => h.elim (fun h => by omega) (fun h => hn2 h)))
        have hn23 : v3.ownBlock ≠ some gb := fun h => (hK3.own gb (.inr h)).elim (fun h => h.elim (fun h => by omega) (fun h => hn2 h)) (fun h => by omega)
        have hK4 := (Kept.ext_trans hK hE0).trans hK3
        have hXl3 : (X ++ outD ((Y.drop i).take (t - i)) (seqB (shO o i) (wts ((Y.drop i).take (t - i))) (t - i))).length ≤ t := by
          have h1 : (outD ((Y.drop i).take (t - i)) (seqB (shO o i) (wts ((Y.drop i).take (t - i))) (t - i))).length ≤ t - i := Nat.le_trans (List.length_filterMap_le _ _) (Nat.le_of_eq (seq_len _ _ _))
          rw [List.length_append]; omega
        have hdl : (Y.drop t).length ≤ m - 1 := by rw [List.length_drop] at hm ⊢; omega
        rw [← List.append_assoc] at hG
        generalize outD ((Y.drop i).take (t - i)) (seqB (shO o i) (wts ((Y.drop i).take (t - i))) (t - i)) = Z at hO3 hXl3 hG
        clear hlk3 hgrp hcut hoff hO hlk kBg
        have hms : Y.length - t < Y.length - i := by omega
        refine Seg.step rfl rfl (Yd.assign rfl) ?_
        refine Seg.nil ?_
        refine At.then_ ?_
        refine Cd.region ?_
        refine Seg.step rfl rfl (Yd.move rfl) ?_
        refine Seg.step rfl rfl (Yd.assign rfl) ?_
        refine Seg.nil ?_
        refine At.blk ?_
        exact At.round (⟨X ++ Z, v3, t, m - 1⟩ : OrS) (.cons rfl (.cons rfl (.cons rfl (.cons rfl (.nil _))))) ⟨⟨htl, hXl3, hG, hdl⟩, hlk4, ⟨hO3, hn13, hn23⟩, hB3, hK4, hA3⟩ hms
    · have hie : i = Y.length := by omega
      subst hie
      rw [List.drop_length] at hG
      have hGn : X = ordG o Y.length Y := by
        rw [← hG]
        cases m <;> simp [ordG]
      have hnI : ¬ (Y.length : Int) < (xs.length : Int) := by omega
      rw [hGn] at hO
      refine Cd.seq ?_
      refine Cd.seq ?_
      refine Cd.region ?_
      refine Seg.step rfl rfl (Yd.move rfl) ?_
      refine Seg.step rfl rfl (Yd.move rfl) ?_
      refine Seg.step rfl rfl (Yd.lenS rfl rfl) ?_
      refine Seg.step rfl rfl (Yd.lss rfl rfl) ?_
      refine Seg.nil ?_
      refine At.then_ ?_
      refine Cd.condk rfl (fun h33 => ?_) (fun h33 => ?_)
      · exfalso; omega
      · refine Cd.exit ?_
        refine At.then_exit ?_
        refine At.then_exit ?_
        refine At.blk_same ?_
        refine At.then_ ?_
        refine Cd.seq ?_
        refine Cd.region ?_
        refine Seg.step rfl rfl (Yd.move rfl) ?_
        refine Seg.step rfl rfl (Yd.assign rfl) ?_
        refine Seg.nil ?_
        refine At.then_ ?_
        refine Cd.ret ?_
        exact At.ret Try.results14 (.tmp rfl .nil) ⟨Y, hY, hYs, hO, hK, kA1⟩
  · have hxe : xs = [] := List.eq_nil_of_length_eq_zero (by omega)
    subst hxe
    clear hlot
    refine Cd.seq ?_
    refine Cd.region ?_
    refine Seg.step rfl rfl (Yd.assign rfl) ?_
    refine Seg.nil ?_
    refine At.then_ ?_
    refine Cd.seq ?_
    refine Cd.region ?_
    refine Seg.step rfl rfl (Yd.move rfl) ?_
    (refine Seg.call rfl rfl (own_of rfl) rfl (clone_any [] v0 _ h0 (by decide)) ?_; rintro _ w9 ⟨hO9, hE9⟩; obtain ⟨ga, gc, rfl⟩ := own_shape hO9; clear hO9)
    replace hE0 := Ext.trans hE0 hE9
    replace h0 := h0.ext hE9
    refine Seg.step rfl rfl (Yd.assign rfl) ?_
    refine Seg.nil ?_
    refine At.then_ ?_
    refine Cd.seq ?_
    refine Cd.region ?_
    refine Seg.step rfl rfl (Yd.move rfl) ?_
    (refine Seg.call rfl rfl (own_of rfl) rfl (sort_nil ga gc _) ?_; rintro _ w16 hE16; have hwp := Below.size (Ext.trans (by assumption : Ext w _) hE16))
    replace hE9 := Ext.trans hE9 hE16
    replace hE0 := Ext.trans hE0 hE16
    replace h0 := h0.ext hE16
    refine Seg.nil ?_
    refine At.then_ ?_
    refine Cd.seq ?_
    refine Cd.region ?_
    refine Seg.step rfl rfl (Yd.move rfl) ?_
    refine Seg.step rfl rfl (Yd.lenS rfl rfl) ?_
    (refine Seg.makeOwn (m := 0) rfl rfl rfl rfl rfl rfl rfl rfl ⟨by omega, by decide⟩ (fun w23 b23 hOm hE23 hb23 => ?_); have hEw := Ext.trans (by assumption : Ext w _) hE23)
    refine Seg.step rfl rfl (Yd.assign rfl) ?_
    refine Seg.nil ?_
    refine At.then_ ?_
    refine Cd.seq ?_
    refine Cd.seq ?_
    refine Cd.region ?_
    refine Seg.step rfl rfl (Yd.assign rfl) ?_
    refine Seg.nil ?_
    refine At.then_ ?_
    refine Cd.block ?_
    have hob : ∀ w', w'.ownsRow w.heap.size 44 33 (.slice (some ⟨b23, 0, none⟩) 0 0) 0 [] → Ext w w' → ∃ Y : List El, Srtd key Y ∧ SameBy key [] Y ∧ w'.ownsRow w.heap.size 44 33 (.slice (some ⟨b23, 0, none⟩) 0 0) (ordG o Y.length Y).length ((ordG o Y.length Y).flatMap cel) ∧ Kept (fun r => r = bd) (fun r => r = bd ∨ ownP (.slice (some ⟨b23, 0, none⟩) 0 0) r) w w' ∧ Ext a0 w' := fun w' h hE =>
      ⟨[], List.Pairwise.nil, SameBy.refl _, h, ⟨hE.size, fun b hb _ => hE.block b hb, fun b h2 => h2.elim .inl (fun h2 => .inr (h.lt _ h2).1)⟩, Ext.trans kA0 hE⟩
    refine Cd.loop (σ := Unit) (fun _ => [(5, .slice ga 0 gc), (6, .slice (some ⟨b23, 0, none⟩) 0 0), (7, .int .i64 0)]) (fun _ w' => w'.ownsRow w.heap.size 44 33 (.slice (some ⟨b23, 0, none⟩) 0 0) 0 [] ∧ Ext w w') (fun _ => 0) () (.cons rfl (.cons rfl (.cons rfl (.nil _)))) ⟨own_low hOm hwp, hEw⟩ ?_
    rintro _ w1 ⟨hO1, hE1⟩
    have hfin := hob w1 hO1 hE1
    clear hEw hOm
    refine Cd.seq ?_
    refine Cd.seq ?_
    refine Cd.region ?_
    refine Seg.step rfl rfl (Yd.move rfl) ?_
    refine Seg.step rfl rfl (Yd.move rfl) ?_
    refine Seg.step rfl rfl (Yd.lenS rfl rfl) ?_
    refine Seg.step rfl rfl (Yd.lss rfl rfl) ?_
    refine Seg.nil ?_
    refine At.then_ ?_
    refine Cd.condF rfl ?_
    refine Cd.exit ?_
    refine At.then_exit ?_
    refine At.then_exit ?_
    refine At.blk_same ?_
    refine At.then_ ?_
    refine Cd.seq ?_
    refine Cd.region ?_
    refine Seg.step rfl rfl (Yd.move rfl) ?_
    refine Seg.step rfl rfl (Yd.assign rfl) ?_
    refine Seg.nil ?_
    refine At.then_ ?_
    refine Cd.ret ?_
    exact At.ret Try.results14 (.tmp rfl .nil) hfin
end Go.Proofs.Ytccppgpedlfjdaa
