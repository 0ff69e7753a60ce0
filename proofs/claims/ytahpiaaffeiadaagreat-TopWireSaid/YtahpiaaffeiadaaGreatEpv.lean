/- puny.Encode: the walk. -/
import Derived.Test.YtahpiaaffeiadaaGreatEpu
namespace Go.Proofs.YtahpiaaffeiadaaGreat
open Go Go.RowKit
structure PiS where
  i : Nat
  st : EncS
  v : Value
structure PeS where
  f : Nat
  st : EncS
  v : Value
theorem pencode_any (l : List Nat) (v0 : Value) (w : World) (h0 : Sl w 1 v0 l.length (r32 l)) (hl : l.length ≤ 1000) (hc : ∀ c ∈ l, c < 1114112) : Ret Tryz.prog 64 #[v0] w fun v w' => v = .tuple #[.string ⟨(encP l).toArray⟩, .int .i64 0] ∧ Ext w w' := by
  have hE0 := Ext.refl w
  have kS : Keep (Sl w 1 v0 l.length (r32 l)) := h0
  obtain ⟨ao, c, rfl, hl0, hr0, hz0⟩ := h0
  refine Ret.body Tryz.func64 rfl Tryz.ntmps64 rfl (Cd.seq (Cd.region (Seg.step rfl rfl (Yd.assign rfl) (Seg.step rfl rfl (Yd.assign rfl) (Seg.nil (At.then_ (Cd.seq ?_)))))))
  refine Cd.seq (Cd.region (Seg.step rfl rfl (Yd.move rfl) (Seg.step rfl rfl (Yd.lenS rfl rfl) (Seg.step rfl rfl (Yd.gtr rfl rfl) (Seg.nil (At.then_ ?_))))))
  refine Cd.condk rfl (fun h15 => ?_) (fun h15 => ?_)
  · exfalso; omega
  refine Cd.skip (At.then_ (Cd.seq (Cd.region (Seg.step rfl rfl (Yd.assign rfl) (Seg.nil (At.then_ (Cd.seq ?_)))))))
  refine Cd.seq (Cd.region (Seg.step rfl rfl (Yd.move rfl) (Seg.step rfl rfl (Yd.lenS rfl rfl) (Seg.step rfl rfl (Yd.move rfl) (Seg.nil (At.then_ (Cd.block ?_)))))))
  refine Cd.loop (σ := Nat × Value) (fun t => [(0, .slice ao l.length c), (4, t.2), (18, .slice ao l.length c), (19, .int .i64 (l.length : Int)), (20, .int .i64 (t.1 : Int))])
    (fun t w' => t.1 ≤ l.length ∧ OwnB w' w.heap.size t.2 (basB (l.take t.1)) ∧ Ext w w') (fun t => l.length - t.1) (0, .slice none 0 0) (.cons rfl (.cons rfl (.cons rfl (.cons rfl (.cons rfl (.nil _)))))) ⟨Nat.zero_le _, World.ownsRow_nil _ _ _ _, hE0⟩ ?_
  clear hE0
  rintro ⟨i, v⟩ w1 ⟨hi, hO, hE1⟩
  simp only at hi hO ⊢
  have kO : Keep (OwnB w1 w.heap.size v (basB (l.take i))) := hO
  have kE1 : Keep (Ext w w1) := hE1
  have hEn := Ext.refl w1
  clear hO
  by_cases hlt : i < l.length
  · obtain ⟨a, rfl⟩ : ∃ a, ao = some a := by
      cases ao with
      | none => have := hz0 rfl; omega
      | some a => exact ⟨a, rfl⟩
    have hr0 := hr0 a rfl
    obtain ⟨x, hx⟩ : ∃ x, l[i]? = some x := ⟨_, List.getElem?_eq_getElem hlt⟩
    have hxl := hc x (List.mem_of_getElem? hx)
    have hbt := basB_take hx
    have hbl := basB_len (l.take i)
    have hcl : (l.take i).countP (fun c => decide (c < 128)) ≤ (l.take i).length := List.countP_le_length
    have htl : (l.take i).length ≤ l.length := by rw [List.length_take]; omega
    by_cases hx1 : x < 128
    · rw [if_pos hx1] at hbt
      refine Cd.seq (Cd.region (Seg.step rfl rfl (Yd.lss rfl rfl) (Seg.nil (At.then_ (Cd.seq ?_)))))
      refine Cd.condk rfl (fun h22 => ?_) (fun h22 => ?_)
      · refine Cd.skip (At.then_ (Cd.seq (Cd.block (Cd.seq (Cd.region (Seg.step rfl rfl (Yd.indexAddr1 rfl rfl rfl (NatOf.cast _) (by omega)) (Seg.step rfl rfl (Yd.load1 rfl rfl ((hr0.ext hE1) _ _ (r32_at hx))) ?_)))))))
        refine Seg.step rfl rfl (Yd.assign rfl) (Seg.nil (At.then_ (Cd.seq (Cd.seq (Cd.region (Seg.step rfl rfl (Yd.move rfl) (Seg.step rfl rfl (Yd.lss rfl rfl) ?_)))))))
        refine Seg.step rfl rfl (Yd.move rfl) (Seg.step rfl rfl (Yd.move rfl) (Seg.step rfl rfl (Yd.gtr rfl rfl) (Seg.step rfl rfl (Yd.pickF rfl rfl) (Seg.nil (At.then_ ?_)))))
        refine Cd.condk rfl (fun h46 => ?_) (fun h46 => ?_)
        · exfalso; omega
        · refine Cd.skip (At.then_ (Cd.seq (Cd.region (Seg.step rfl rfl (Yd.move rfl) (Seg.step rfl rfl (Yd.lss rfl rfl) (Seg.nil (At.then_ ?_)))))))
          refine Cd.condk rfl (fun h56 => ?_) (fun h56 => ?_)
          · refine Cd.region (Seg.step rfl rfl (Yd.move rfl) (Seg.step rfl rfl (Yd.move rfl) ?_))
            (refine Seg.step rfl rfl (Yd.convI rfl rfl rfl) ?_; rw [u8_wrapN])
            refine Seg.buildSliceV rfl rfl rfl rfl rfl rfl rfl rfl rfl rfl (fun w62 b62 hE62 hB62 hb62 hO62 => ?_)
            have hlt62_0 := Nat.le_trans hE1.size hb62
            have hlt62_1 := Nat.le_trans hEn.size hb62
            replace hE1 := Ext.trans hE1 hE62
            replace hEn := Ext.trans hEn hE62
            (refine Seg.appB (m := [UInt8.ofNat x]) rfl rfl rfl rfl rfl (own_ext kO hEn) (own_sl (by assumption)) (Below.size (Ext.trans kE1 hEn)) (by show _ + 1 ≤ _; omega) (fun v63 w63 hO63 _ hX63 hS63 _ => ?_); have hE3 := hX63 w (Ext.trans kE1 hEn) (Nat.le_refl _))
            refine Seg.step rfl rfl (Yd.assign rfl) (Seg.nil (At.blk (At.then_ (Cd.region (Seg.step rfl rfl (Yd.addI rfl rfl (by omega)) (Seg.step rfl rfl (Yd.move rfl) (Seg.nil ?_)))))))
            exact At.round (i + 1, _) (.cons rfl (.cons rfl (.cons rfl (.cons rfl (.cons rfl (.nil _)))))) ⟨hlt, by rw [hbt]; assumption, hE3⟩ (Nat.sub_lt_sub_left hlt (Nat.lt_succ_self i))
          · exfalso; omega
      · exfalso; omega
    · rw [if_neg hx1, List.append_nil] at hbt
      refine Cd.seq (Cd.region (Seg.step rfl rfl (Yd.lss rfl rfl) (Seg.nil (At.then_ (Cd.seq ?_)))))
      refine Cd.condk rfl (fun h22 => ?_) (fun h22 => ?_)
      · refine Cd.skip (At.then_ (Cd.seq (Cd.block (Cd.seq (Cd.region (Seg.step rfl rfl (Yd.indexAddr1 rfl rfl rfl (NatOf.cast _) (by omega)) (Seg.step rfl rfl (Yd.load1 rfl rfl ((hr0.ext hE1) _ _ (r32_at hx))) ?_)))))))
        refine Seg.step rfl rfl (Yd.assign rfl) (Seg.nil (At.then_ (Cd.seq (Cd.seq (Cd.region (Seg.step rfl rfl (Yd.move rfl) (Seg.step rfl rfl (Yd.lss rfl rfl) ?_)))))))
        refine Seg.step rfl rfl (Yd.move rfl) (Seg.step rfl rfl (Yd.move rfl) (Seg.step rfl rfl (Yd.gtr rfl rfl) (Seg.step rfl rfl (Yd.pickF rfl rfl) (Seg.nil (At.then_ ?_)))))
        refine Cd.condk rfl (fun h46 => ?_) (fun h46 => ?_)
        · exfalso; omega
        · refine Cd.skip (At.then_ (Cd.seq (Cd.region (Seg.step rfl rfl (Yd.move rfl) (Seg.step rfl rfl (Yd.lss rfl rfl) (Seg.nil (At.then_ ?_)))))))
          refine Cd.condk rfl (fun h56 => ?_) (fun h56 => ?_)
          · exfalso; omega
          · refine Cd.skip (At.blk (At.then_ (Cd.region (Seg.step rfl rfl (Yd.addI rfl rfl (by omega)) (Seg.step rfl rfl (Yd.move rfl) (Seg.nil ?_))))))
            exact At.round (i + 1, v) (.cons rfl (.cons rfl (.cons rfl (.cons rfl (.cons rfl (.nil _)))))) ⟨hlt, by rw [hbt]; exact own_ext kO hEn, Ext.trans kE1 hEn⟩ (Nat.sub_lt_sub_left hlt (Nat.lt_succ_self i))
      · exfalso; omega
  · have hil : l.take i = l := List.take_of_length_le (by omega)
    rw [hil] at kO
    obtain ⟨va, vc, rfl⟩ := own_shape kO
    have hbl := basB_len l
    have hcl : l.countP (fun c => decide (c < 128)) ≤ l.length := List.countP_le_length
    refine Cd.seq (Cd.region (Seg.step rfl rfl (Yd.lss rfl rfl) (Seg.nil (At.then_ (Cd.seq ?_)))))
    refine Cd.condk rfl (fun h22 => ?_) (fun h22 => ?_)
    · exfalso; omega
    refine Cd.exit (At.then_exit (At.then_exit (At.blk_same (At.then_ (Cd.seq (Cd.region (Seg.step rfl rfl (Yd.move rfl) (Seg.step rfl rfl (Yd.lenS rfl rfl) (Seg.step rfl rfl (Yd.assign rfl) (Seg.nil (At.then_ ?_)))))))))))
    refine Cd.cut (σ := Value) (fun v => [(0, .slice ao l.length c), (4, v), (7, .int .i64 ((basB l).length : Int))]) (fun v w' => OwnB w' w.heap.size v (startE l).b ∧ Ext w w') ?_ (fun v3 w3 hh => ?_)
    · by_cases hb0 : (basB l).length = 0
      · have hst : (startE l).b = basB l := by show basB l ++ (if (basB l).length = 0 then [] else [45]) = _; rw [if_pos hb0, List.append_nil]
        refine Cd.seq (Cd.region (Seg.step rfl rfl (Yd.move rfl) (Seg.step rfl rfl (Yd.gtr rfl rfl) (Seg.nil (At.then_ ?_)))))
        refine Cd.condk rfl (fun h29 => ?_) (fun h29 => ?_)
        · exfalso; omega
        · refine Cd.skip ?_
          exact At.cut _ (.cons rfl (.cons rfl (.cons rfl (.nil _)))) ⟨by rw [hst]; exact own_ext kO hEn, Ext.trans kE1 hEn⟩
      · have hst : (startE l).b = basB l ++ [45] := by show basB l ++ (if (basB l).length = 0 then [] else [45]) = _; rw [if_neg hb0]
        refine Cd.seq (Cd.region (Seg.step rfl rfl (Yd.move rfl) (Seg.step rfl rfl (Yd.gtr rfl rfl) (Seg.nil (At.then_ ?_)))))
        refine Cd.condk rfl (fun h29 => ?_) (fun h29 => ?_)
        · refine Cd.region (Seg.step rfl rfl (Yd.move rfl) (Seg.buildSliceV rfl rfl rfl rfl rfl rfl rfl rfl rfl rfl (fun w33 b33 hE33 hB33 hb33 hO33 => ?_)))
          have hlt33_0 := Nat.le_trans hE1.size hb33
          have hlt33_1 := Nat.le_trans hEn.size hb33
          replace hE1 := Ext.trans hE1 hE33
          replace hEn := Ext.trans hEn hE33
          (refine Seg.appB (m := [45]) rfl rfl rfl rfl rfl (own_ext kO hEn) (own_sl (by assumption)) (Below.size (Ext.trans kE1 hEn)) (by show _ + 1 ≤ _; omega) (fun v34 w34 hO34 _ hX34 hS34 _ => ?_); have hE3 := hX34 w (Ext.trans kE1 hEn) (Nat.le_refl _))
          refine Seg.step rfl rfl (Yd.assign rfl) (Seg.nil ?_)
          exact At.cut _ (.cons rfl (.cons rfl (.cons rfl (.nil _)))) ⟨by rw [hst]; assumption, hE3⟩
        · exfalso; omega
    · obtain ⟨hO3, hE3⟩ := hh
      clear kO kE1 hEn hE1
      have hE0 := hE3
      refine Cd.seq (Cd.region (Seg.step rfl rfl (Yd.assign rfl) (Seg.nil (At.then_ (Cd.seq (Cd.region (Seg.step rfl rfl (Yd.move rfl) ?_)))))))
      refine Seg.step rfl rfl (Yd.assign rfl) (Seg.step rfl rfl (Yd.assign rfl) (Seg.step rfl rfl (Yd.assign rfl) (Seg.nil (At.then_ (Cd.seq (Cd.block ?_))))))
      refine Cd.loop (σ := PeS) (fun t => [(0, .slice ao l.length c), (4, t.v), (7, .int .i64 ((basB l).length : Int)), (8, .int .i64 (t.st.steps : Int)), (9, .int .i64 (t.st.n : Int)), (10, .int .i64 (t.st.bias : Int)), (11, .int .i64 (t.st.done : Int))])
        (fun t w' => (Inv1 l t.st ∧ (encF (basB l).length l t.f t.st).b = encP l ∧ l.length ≤ t.st.done + t.f) ∧ OwnB w' w.heap.size t.v t.st.b ∧ Ext w w') (fun t => t.f) ⟨l.length, startE l, v3⟩ (.cons rfl (.cons rfl (.cons rfl (.cons rfl (.cons rfl (.cons rfl (.cons rfl (.nil _)))))))) ⟨⟨start_inv l, rfl, Nat.le_add_left _ _⟩, hO3, hE0⟩ ?_
      clear hE0 hE3 hO3
      rintro ⟨f, st, v⟩ w4 ⟨⟨hI, hF, hfl⟩, hO, hE4⟩
      simp only at hI hF hfl hO ⊢
      have kO : Keep (OwnB w4 w.heap.size v st.b) := hO
      have kE4 : Keep (Ext w w4) := hE4
      have hEn := Ext.refl w4
      clear hO
      have hI' := hI
      obtain ⟨i1, i2, i3, i4, i5, i6⟩ := hI'
      by_cases hd : st.done < l.length
      · obtain ⟨g, rfl⟩ : ∃ g, f = g + 1 := ⟨f - 1, by omega⟩
        have hF' : (encF (basB l).length l g (outE (basB l).length l st)).b = encP l := by
          rw [← hF]
          conv => rhs; unfold encF
          rw [if_pos hd]
        obtain ⟨o1, o2⟩ := out_inv (basic := (basB l).length) hc hI hd
        obtain ⟨m1, m2, m3⟩ := least_have hc i3 hd
        have hp := pre_inv hc hI hd
        have hml := hc _ m1
        obtain ⟨M, hM⟩ : ∃ M, M = leastF l st.n := ⟨_, rfl⟩
        rw [← hM] at m1 m2 m3 hp hml
        have hsteps : (preE l st).steps = st.steps + (M - st.n) * (st.done + 1) := by rw [hM]; rfl
        have hp3 := hp.2.2.1
        rw [hsteps] at hp3
        have hML : M * (l.length + 1) ≤ 1114112 * 1001 := Nat.mul_le_mul (by omega) (by omega)
        obtain ⟨X, hX⟩ : ∃ X, X = (M - st.n) * (st.done + 1) := ⟨_, rfl⟩
        obtain ⟨Y, hY⟩ : ∃ Y, Y = M * (l.length + 1) := ⟨_, rfl⟩
        rw [← hX] at hp3 hsteps
        rw [← hY] at hp3 hML
        have q1 : (M : Int) - (st.n : Int) = ((M - st.n : Nat) : Int) := by omega
        have q2 : (st.done : Int) + 1 = ((st.done + 1 : Nat) : Int) := rfl
        have q3 : ((M - st.n : Nat) : Int) * ((st.done + 1 : Nat) : Int) = (X : Int) := by rw [hX]; rfl
        have q4 : (st.steps : Int) + (X : Int) = (((preE l st).steps : Nat) : Int) := by rw [hsteps]; rfl
        refine Cd.seq (Cd.seq (Cd.region (Seg.step rfl rfl (Yd.move rfl) (Seg.step rfl rfl (Yd.move rfl) (Seg.step rfl rfl (Yd.lenS rfl rfl) (Seg.step rfl rfl (Yd.lss rfl rfl) (Seg.nil ?_)))))))
        refine At.then_ ?_
        refine Cd.condk rfl (fun h32 => ?_) (fun h32 => ?_)
        rotate_left 1
        · exfalso; omega
        rotate_right 1
        refine Cd.skip (At.then_ (Cd.block (Cd.seq (Cd.region (Seg.step rfl rfl (Yd.move rfl) (Seg.step rfl rfl (Yd.move rfl) ?_))))))
        (refine Seg.call rfl rfl (own_of rfl) rfl (pleast_any l st.n _ _ (Sl.ext kS (Ext.trans kE4 hEn)) (by omega) hc) ?_; rw [← hM]; rintro _ w41 ⟨rfl, hE41⟩)
        replace hE4 := Ext.trans hE4 hE41
        replace hEn := Ext.trans hEn hE41
        refine Seg.step rfl rfl (Yd.assign rfl) (Seg.nil (At.then_ (Cd.seq (Cd.region (Seg.step rfl rfl (Yd.move rfl) (Seg.step rfl rfl (Yd.move rfl) (Seg.step rfl rfl (Yd.move rfl) ?_)))))))
        first | (refine Seg.step rfl rfl (Yd.subI rfl rfl (by omega)) ?_; rw [q1]) | (refine Seg.step rfl rfl (Yd.mul rfl rfl) ?_; rw [q3, IntWalk.i64_in _ ⟨by omega, by omega⟩]) | (refine Seg.step rfl rfl (Yd.addI rfl rfl (by omega)) ?_; first | rw [q2] | rw [q4])
        refine Seg.step rfl rfl (Yd.move rfl) ?_
        first | (refine Seg.step rfl rfl (Yd.subI rfl rfl (by omega)) ?_; rw [q1]) | (refine Seg.step rfl rfl (Yd.mul rfl rfl) ?_; rw [q3, IntWalk.i64_in _ ⟨by omega, by omega⟩]) | (refine Seg.step rfl rfl (Yd.addI rfl rfl (by omega)) ?_; first | rw [q2] | rw [q4])
        first | (refine Seg.step rfl rfl (Yd.subI rfl rfl (by omega)) ?_; rw [q1]) | (refine Seg.step rfl rfl (Yd.mul rfl rfl) ?_; rw [q3, IntWalk.i64_in _ ⟨by omega, by omega⟩]) | (refine Seg.step rfl rfl (Yd.addI rfl rfl (by omega)) ?_; first | rw [q2] | rw [q4])
        first | (refine Seg.step rfl rfl (Yd.subI rfl rfl (by omega)) ?_; rw [q1]) | (refine Seg.step rfl rfl (Yd.mul rfl rfl) ?_; rw [q3, IntWalk.i64_in _ ⟨by omega, by omega⟩]) | (refine Seg.step rfl rfl (Yd.addI rfl rfl (by omega)) ?_; first | rw [q2] | rw [q4])
        refine Seg.step rfl rfl (Yd.assign rfl) (Seg.nil (At.then_ (Cd.seq (Cd.seq (Cd.region (Seg.step rfl rfl (Yd.move rfl) (Seg.step rfl rfl (Yd.gtr rfl rfl) ?_)))))))
        refine Seg.nil (At.then_ ?_)
        refine Cd.condk rfl (fun h65 => ?_) (fun h65 => ?_)
        · exfalso; omega
        refine Cd.skip (At.then_ (Cd.seq (Cd.region (Seg.step rfl rfl (Yd.move rfl) (Seg.step rfl rfl (Yd.assign rfl) (Seg.nil (At.then_ ?_)))))))
        refine Cd.seq (Cd.seq (Cd.region (Seg.step rfl rfl (Yd.move rfl) (Seg.step rfl rfl (Yd.lenS rfl rfl) (Seg.step rfl rfl (Yd.move rfl) (Seg.nil (At.then_ ?_)))))))
        refine Cd.block ?_
        refine Cd.loop (σ := PiS) (fun t => [(0, .slice ao l.length c), (4, t.v), (7, .int .i64 ((basB l).length : Int)), (8, .int .i64 (t.st.steps : Int)), (9, .int .i64 (M : Int)), (10, .int .i64 (t.st.bias : Int)), (11, .int .i64 (t.st.done : Int)), (64, .slice ao l.length c), (65, .int .i64 (l.length : Int)), (66, .int .i64 (t.i : Int))])
          (fun t w' => (t.i ≤ l.length ∧ t.st = (l.take t.i).foldl (innE (basB l).length M) (preE l st) ∧ Inv2 l M t.i t.st) ∧ OwnB w' w.heap.size t.v t.st.b ∧ Ext w w') (fun t => l.length - t.i) ⟨0, preE l st, v⟩ (.cons rfl (.cons rfl (.cons rfl (.cons rfl (.cons rfl (.cons rfl (.cons rfl (.cons rfl (.cons rfl (.cons rfl (.nil _))))))))))) ⟨⟨Nat.zero_le _, rfl, hp⟩, own_ext kO hEn, Ext.trans kE4 hEn⟩ ?_
        clear kO hEn hE4 kE4
        rintro ⟨i, s, v⟩ w5 ⟨⟨hi, hs, hI2⟩, hO, hE5⟩
        simp only at hi hs hI2 hO ⊢
        have kO : Keep (OwnB w5 w.heap.size v s.b) := hO
        have kE5 : Keep (Ext w w5) := hE5
        have hEn := Ext.refl w5
        clear hO
        have hdn := inv2_done hI2
        obtain ⟨j1, j2, j3, j4, j5⟩ := id hI2
        rw [← hY] at j3
        by_cases hlt : i < l.length
        · obtain ⟨a, rfl⟩ : ∃ a, ao = some a := by
            cases ao with
            | none => have := hz0 rfl; omega
            | some a => exact ⟨a, rfl⟩
          have hr0 := hr0 a rfl
          obtain ⟨x, hx⟩ : ∃ x, l[i]? = some x := ⟨_, List.getElem?_eq_getElem hlt⟩
          have hxl := hc x (List.mem_of_getElem? hx)
          have hxw : IntKind.i64.wrap (x : Int) = (x : Int) := IntWalk.i64_in _ ⟨by omega, by omega⟩
          have hnx := inn_inv (basic := (basB l).length) hI2 hx
          have hft : (l.take (i + 1)).foldl (innE (basB l).length M) (preE l st) = innE (basB l).length M s x := by rw [fold_take hx, ← hs]
          by_cases hx1 : x < M
          · have hin : innE (basB l).length M s x = { s with steps := s.steps + 1 } := by unfold innE; rw [if_pos hx1]
            rw [hin] at hnx hft
            refine Cd.seq (Cd.region (Seg.step rfl rfl (Yd.lss rfl rfl) (Seg.nil (At.then_ (Cd.seq ?_)))))
            refine Cd.condk rfl (fun h72 => ?_) (fun h72 => ?_)
            · refine Cd.skip (At.then_ (Cd.seq (Cd.block (Cd.seq (Cd.region (Seg.step rfl rfl (Yd.indexAddr1 rfl rfl rfl (NatOf.cast _) (by omega)) (Seg.step rfl rfl (Yd.load1 rfl rfl ((hr0.ext hE5) _ _ (r32_at hx))) ?_)))))))
              refine Seg.step rfl rfl (Yd.assign rfl) (Seg.nil (At.then_ (Cd.seq (Cd.seq (Cd.region (Seg.step rfl rfl (Yd.move rfl) ?_))))))
              (refine Seg.step rfl rfl (Yd.convN rfl rfl rfl hxw) ?_)
              refine Seg.step rfl rfl (Yd.move rfl) (Seg.step rfl rfl (Yd.lss rfl rfl) (Seg.nil (At.then_ ?_)))
              refine Cd.condk rfl (fun h94 => ?_) (fun h94 => ?_)
              · refine Cd.seq (Cd.region (Seg.step rfl rfl (Yd.move rfl) (Seg.step rfl rfl (Yd.addI rfl rfl (by omega)) (Seg.step rfl rfl (Yd.assign rfl) (Seg.nil (At.then_ (Cd.seq ?_)))))))
                refine Cd.region (Seg.step rfl rfl (Yd.move rfl) (Seg.step rfl rfl (Yd.gtr rfl rfl) (Seg.nil (At.then_ ?_))))
                refine Cd.condk rfl (fun h109 => ?_) (fun h109 => ?_)
                · exfalso; omega
                · refine Cd.skip (At.then_ (Cd.seq (Cd.region (Seg.step rfl rfl (Yd.move rfl) ?_))))
                  (refine Seg.step rfl rfl (Yd.convN rfl rfl rfl hxw) ?_)
                  refine Seg.step rfl rfl (Yd.move rfl) (Seg.step rfl rfl (Yd.eql rfl rfl) (Seg.nil (At.then_ ?_)))
                  refine Cd.condk rfl (fun h121 => ?_) (fun h121 => ?_)
                  · exfalso; omega
                  · refine Cd.skip (At.blk (At.then_ (Cd.region (Seg.step rfl rfl (Yd.addI rfl rfl (by omega)) (Seg.step rfl rfl (Yd.move rfl) (Seg.nil ?_))))))
                    exact At.round (⟨i + 1, { s with steps := s.steps + 1 }, v⟩ : PiS) (.cons rfl (.cons rfl (.cons rfl (.cons rfl (.cons rfl (.cons rfl (.cons rfl (.cons rfl (.cons rfl (.cons rfl (.nil _))))))))))) ⟨⟨hlt, hft.symm, hnx⟩, own_ext kO hEn, Ext.trans kE5 hEn⟩ (Nat.sub_lt_sub_left hlt (Nat.lt_succ_self i))
              · exfalso; omega
            · exfalso; omega
          · by_cases hx2 : x = M
            · have hdd : decide (s.done = (basB l).length) = decide ((s.done : Int) = ((basB l).length : Int)) := by rw [decide_eq_decide]; omega
              have hin : innE (basB l).length M s x = { s with b := s.b ++ addF 20 1 s.steps (s.bias : Int), steps := 0, bias := behF s.steps (s.done + 1) (decide ((s.done : Int) = ((basB l).length : Int))), done := s.done + 1 } := by
                unfold innE
                rw [if_neg hx1, if_pos hx2, hdd]
              rw [hin] at hnx hft
              have p2 : (s.done : Int) + 1 = ((s.done + 1 : Nat) : Int) := rfl
              refine Cd.seq (Cd.region (Seg.step rfl rfl (Yd.lss rfl rfl) (Seg.nil (At.then_ (Cd.seq ?_)))))
              refine Cd.condk rfl (fun h72 => ?_) (fun h72 => ?_)
              · refine Cd.skip (At.then_ (Cd.seq (Cd.block (Cd.seq (Cd.region (Seg.step rfl rfl (Yd.indexAddr1 rfl rfl rfl (NatOf.cast _) (by omega)) (Seg.step rfl rfl (Yd.load1 rfl rfl ((hr0.ext hE5) _ _ (r32_at hx))) ?_)))))))
                refine Seg.step rfl rfl (Yd.assign rfl) (Seg.nil (At.then_ (Cd.seq (Cd.seq (Cd.region (Seg.step rfl rfl (Yd.move rfl) ?_))))))
                (refine Seg.step rfl rfl (Yd.convN rfl rfl rfl hxw) ?_)
                refine Seg.step rfl rfl (Yd.move rfl) (Seg.step rfl rfl (Yd.lss rfl rfl) (Seg.nil (At.then_ ?_)))
                refine Cd.condk rfl (fun h94 => ?_) (fun h94 => ?_)
                · exfalso; omega
                · refine Cd.skip (At.then_ (Cd.seq (Cd.region (Seg.step rfl rfl (Yd.move rfl) ?_))))
                  (refine Seg.step rfl rfl (Yd.convN rfl rfl rfl hxw) ?_)
                  refine Seg.step rfl rfl (Yd.move rfl) (Seg.step rfl rfl (Yd.eql rfl rfl) (Seg.nil (At.then_ ?_)))
                  refine Cd.condk rfl (fun h106 => ?_) (fun h106 => ?_)
                  · refine Cd.seq (Cd.region (Seg.step rfl rfl (Yd.move rfl) (Seg.step rfl rfl (Yd.move rfl) (Seg.step rfl rfl (Yd.move rfl) ?_))))
                    (refine Seg.call rfl rfl (own_of rfl) rfl (padd_any w w.heap.size s.b s.steps s.bias v _ (own_ext kO hEn) (Below.size (Ext.trans kE5 hEn)) (Nat.le_refl _) (Ext.trans kE5 hEn) (by omega) ⟨by omega, by omega⟩ (by omega)) ?_; rintro v2 w113 ⟨hO2, hE2, _⟩; have hEm := Ext.refl w113; clear hEn)
                    refine Seg.step rfl rfl (Yd.assign rfl) (Seg.nil (At.then_ (Cd.seq (Cd.region (Seg.step rfl rfl (Yd.move rfl) (Seg.step rfl rfl (Yd.move rfl) ?_))))))
                    (refine Seg.step rfl rfl (Yd.addI rfl rfl (by omega)) ?_; rw [p2])
                    refine Seg.step rfl rfl (Yd.move rfl) (Seg.step rfl rfl (Yd.move rfl) (Seg.step rfl rfl (Yd.eql rfl rfl) ?_))
                    (refine Seg.call rfl rfl (own_of rfl) rfl (pbehind_any s.steps (s.done + 1) _ _ (by omega) (by omega) (by omega)) ?_; rintro _ w125 ⟨rfl, hE125⟩)
                    replace hE2 := Ext.trans hE2 hE125
                    replace hEm := Ext.trans hEm hE125
                    refine Seg.step rfl rfl (Yd.assign rfl) (Seg.nil (At.then_ (Cd.seq (Cd.region (Seg.step rfl rfl (Yd.assign rfl) (Seg.nil (At.then_ ?_)))))))
                    refine Cd.region (Seg.step rfl rfl (Yd.move rfl) ?_)
                    (refine Seg.step rfl rfl (Yd.addI rfl rfl (by omega)) ?_; rw [p2])
                    refine Seg.step rfl rfl (Yd.assign rfl) (Seg.nil (At.blk (At.then_ (Cd.region (Seg.step rfl rfl (Yd.addI rfl rfl (by omega)) (Seg.step rfl rfl (Yd.move rfl) (Seg.nil ?_)))))))
                    exact At.round (⟨i + 1, { s with b := s.b ++ addF 20 1 s.steps (s.bias : Int), steps := 0, bias := behF s.steps (s.done + 1) (decide ((s.done : Int) = ((basB l).length : Int))), done := s.done + 1 }, v2⟩ : PiS) (.cons rfl (.cons rfl (.cons rfl (.cons rfl (.cons rfl (.cons rfl (.cons rfl (.cons rfl (.cons rfl (.cons rfl (.nil _))))))))))) ⟨⟨hlt, hft.symm, hnx⟩, own_ext hO2 hEm, hE2⟩ (Nat.sub_lt_sub_left hlt (Nat.lt_succ_self i))
                  · exfalso; omega
              · exfalso; omega
            · have hin : innE (basB l).length M s x = s := by unfold innE; rw [if_neg hx1, if_neg hx2]
              rw [hin] at hnx hft
              refine Cd.seq (Cd.region (Seg.step rfl rfl (Yd.lss rfl rfl) (Seg.nil (At.then_ (Cd.seq ?_)))))
              refine Cd.condk rfl (fun h72 => ?_) (fun h72 => ?_)
              · refine Cd.skip (At.then_ (Cd.seq (Cd.block (Cd.seq (Cd.region (Seg.step rfl rfl (Yd.indexAddr1 rfl rfl rfl (NatOf.cast _) (by omega)) (Seg.step rfl rfl (Yd.load1 rfl rfl ((hr0.ext hE5) _ _ (r32_at hx))) ?_)))))))
                refine Seg.step rfl rfl (Yd.assign rfl) (Seg.nil (At.then_ (Cd.seq (Cd.seq (Cd.region (Seg.step rfl rfl (Yd.move rfl) ?_))))))
                (refine Seg.step rfl rfl (Yd.convN rfl rfl rfl hxw) ?_)
                refine Seg.step rfl rfl (Yd.move rfl) (Seg.step rfl rfl (Yd.lss rfl rfl) (Seg.nil (At.then_ ?_)))
                refine Cd.condk rfl (fun h94 => ?_) (fun h94 => ?_)
                · exfalso; omega
                · refine Cd.skip (At.then_ (Cd.seq (Cd.region (Seg.step rfl rfl (Yd.move rfl) ?_))))
                  (refine Seg.step rfl rfl (Yd.convN rfl rfl rfl hxw) ?_)
                  refine Seg.step rfl rfl (Yd.move rfl) (Seg.step rfl rfl (Yd.eql rfl rfl) (Seg.nil (At.then_ ?_)))
                  refine Cd.condk rfl (fun h106 => ?_) (fun h106 => ?_)
                  · exfalso; omega
                  · refine Cd.skip (At.blk (At.then_ (Cd.region (Seg.step rfl rfl (Yd.addI rfl rfl (by omega)) (Seg.step rfl rfl (Yd.move rfl) (Seg.nil ?_))))))
                    exact At.round (⟨i + 1, s, v⟩ : PiS) (.cons rfl (.cons rfl (.cons rfl (.cons rfl (.cons rfl (.cons rfl (.cons rfl (.cons rfl (.cons rfl (.cons rfl (.nil _))))))))))) ⟨⟨hlt, hft.symm, hnx⟩, own_ext kO hEn, Ext.trans kE5 hEn⟩ (Nat.sub_lt_sub_left hlt (Nat.lt_succ_self i))
              · exfalso; omega
        · have hil : l.take i = l := List.take_of_length_le (by omega)
          rw [hil] at hs
          have hout : outE (basB l).length l st = { s with steps := s.steps + 1, n := M + 1 } := by
            unfold outE
            rw [← hM, ← hs]
          rw [hout] at hF' o1 o2
          refine Cd.seq (Cd.region (Seg.step rfl rfl (Yd.lss rfl rfl) (Seg.nil (At.then_ (Cd.seq ?_)))))
          refine Cd.condk rfl (fun h72 => ?_) (fun h72 => ?_)
          · exfalso; omega
          · refine Cd.exit (At.then_exit (At.then_exit (At.blk_same (At.then_ (Cd.seq (Cd.region (Seg.step rfl rfl (Yd.move rfl) ?_)))))))
            refine Seg.step rfl rfl (Yd.addI rfl rfl (by omega)) (Seg.step rfl rfl (Yd.assign rfl) (Seg.nil (At.then_ (Cd.region (Seg.step rfl rfl (Yd.move rfl) (Seg.step rfl rfl (Yd.addI rfl rfl (by omega)) (Seg.step rfl rfl (Yd.assign rfl) ?_)))))))
            refine Seg.nil (At.blk ?_)
            exact At.round (⟨g, { s with steps := s.steps + 1, n := M + 1 }, v⟩ : PeS) (.cons rfl (.cons rfl (.cons rfl (.cons rfl (.cons rfl (.cons rfl (.cons rfl (.nil _)))))))) ⟨⟨o1, hF', by have h9 : st.done + 1 ≤ s.done := o2; show l.length ≤ s.done + g; omega⟩, own_ext kO hEn, Ext.trans kE5 hEn⟩ (Nat.lt_succ_self g)
      · have hfin : encP l = st.b := by
          rw [← hF]
          cases f with
          | zero => rfl
          | succ g => unfold encF; rw [if_neg hd]
        rw [hfin]
        refine Cd.seq (Cd.seq (Cd.region (Seg.step rfl rfl (Yd.move rfl) (Seg.step rfl rfl (Yd.move rfl) (Seg.step rfl rfl (Yd.lenS rfl rfl) (Seg.step rfl rfl (Yd.lss rfl rfl) (Seg.nil ?_)))))))
        refine At.then_ ?_
        refine Cd.condk rfl (fun h32 => ?_) (fun h32 => ?_)
        · exfalso; omega
        · refine Cd.exit (At.then_exit (At.then_exit (At.blk_same (At.then_ (Cd.seq (Cd.region (Seg.step rfl rfl (Yd.move rfl) ?_)))))))
          (refine Seg.step rfl rfl (Yd.bts (l := st.b) rfl rfl rfl rfl (own_sl (own_ext kO hEn))) ?_)
          refine Seg.step rfl rfl (Yd.assign rfl) (Seg.step rfl rfl (Yd.assign rfl) (Seg.nil (At.then_ (Cd.ret ?_))))
          exact At.ret Tryz.results64 (.tmp rfl (.tmp rfl .nil)) ⟨rfl, Ext.trans kE4 hEn⟩
end Go.Proofs.YtahpiaaffeiadaaGreat
