/- Points as letters, digits and hyphens: what writes them. -/
import Derived.Test.YtahpiaaffeiadaaGreatEut
namespace Go.Proofs.YtahpiaaffeiadaaGreat
open Go Go.RowKit
def bndI (k bias : Int) : Int := if 26 < (if 36 * k - bias < 1 then 1 else 36 * k - bias) then 26 else (if 36 * k - bias < 1 then 1 else 36 * k - bias)
theorem bnd_in (k bias : Int) : 1 ≤ bndI k bias ∧ bndI k bias ≤ 26 := by unfold bndI; split <;> split <;> omega
theorem pbound_any (k bias : Int) (w : World) (hk : 0 ≤ k ∧ k ≤ 1000000) (hb : 0 ≤ bias ∧ bias ≤ 1000000) : Ret Tryz.prog 94 #[.int .i64 k, .int .i64 bias] w fun v w' => v = .int .i64 (bndI k bias) ∧ Ext w w' := by
  have hE0 := Ext.refl w
  refine Ret.body Tryz.func94 rfl Tryz.ntmps94 rfl (Cd.seq (Cd.region (Seg.step rfl rfl (Yd.assign rfl) (Seg.nil (At.then_ (Cd.seq (Cd.region ?_)))))))
  refine Seg.step rfl rfl (Yd.move rfl) (Seg.step rfl rfl (Yd.mulI rfl rfl (by omega)) (Seg.step rfl rfl (Yd.move rfl) (Seg.step rfl rfl (Yd.subI rfl rfl (by omega)) ?_)))
  (refine Seg.step rfl rfl (Yd.max2I rfl rfl) ?_)
  refine Seg.step rfl rfl (Yd.min2 rfl rfl) (Seg.step rfl rfl (Yd.assign rfl) (Seg.nil (At.then_ (Cd.ret ?_))))
  exact At.ret Tryz.results94 (.tmp rfl .nil) ⟨rfl, hE0⟩
/-- A figure, written. -/
def letB (n : Nat) : UInt8 := if n < 26 then UInt8.ofNat (97 + n) else UInt8.ofNat (22 + n)
theorem pletter_any (n : Nat) (w : World) (h : n < 36) : Ret Tryz.prog 95 #[.int .i64 (n : Int)] w fun v w' => v = .int .u8 (letB n).toNat ∧ Ext w w' := by
  have hE0 := Ext.refl w
  refine Ret.body Tryz.func95 rfl Tryz.ntmps95 rfl ?_
  have e1 : IntKind.u8.wrap ((97 : Int) + (n : Int)) = ((UInt8.ofNat (97 + n)).toNat : Int) := by rw [← u8_wrapN]; congr 1
  have e2 : IntKind.u8.wrap ((48 : Int) + (n : Int) - 26) = ((UInt8.ofNat (22 + n)).toNat : Int) := by rw [← u8_wrapN]; congr 1; omega
  by_cases hn : n < 26
  · have hl : letB n = UInt8.ofNat (97 + n) := if_pos hn
    rw [hl, ← e1]
    refine Cd.seq (Cd.region (Seg.step rfl rfl (Yd.assign rfl) (Seg.nil (At.then_ (Cd.seq (Cd.seq (Cd.region ?_)))))))
    refine Seg.step rfl rfl (Yd.move rfl) (Seg.step rfl rfl (Yd.lss rfl rfl) (Seg.nil (At.then_ ?_)))
    refine Cd.condk rfl (fun h13 => ?_) (fun h13 => ?_)
    · refine Cd.seq (Cd.region (Seg.step rfl rfl (Yd.move rfl) (Seg.step rfl rfl (Yd.addI rfl rfl (by omega)) (Seg.step rfl rfl (Yd.convI rfl rfl rfl) (Seg.step rfl rfl (Yd.assign rfl) (Seg.nil (At.then_ ?_)))))))
      refine Cd.ret (At.then_ret ?_)
      exact At.ret Tryz.results95 (.tmp rfl .nil) ⟨rfl, hE0⟩
    · exfalso; omega
  · have hl : letB n = UInt8.ofNat (22 + n) := if_neg hn
    rw [hl, ← e2]
    refine Cd.seq (Cd.region (Seg.step rfl rfl (Yd.assign rfl) (Seg.nil (At.then_ (Cd.seq (Cd.seq (Cd.region ?_)))))))
    refine Seg.step rfl rfl (Yd.move rfl) (Seg.step rfl rfl (Yd.lss rfl rfl) (Seg.nil (At.then_ ?_)))
    refine Cd.condk rfl (fun h13 => ?_) (fun h13 => ?_)
    · exfalso; omega
    · refine Cd.skip (At.then_ (Cd.seq (Cd.region (Seg.step rfl rfl (Yd.move rfl) (Seg.step rfl rfl (Yd.addI rfl rfl (by omega)) (Seg.step rfl rfl (Yd.subI rfl rfl (by omega)) (Seg.step rfl rfl (Yd.convI rfl rfl rfl) ?_)))))))
      refine Seg.step rfl rfl (Yd.assign rfl) (Seg.nil (At.then_ (Cd.ret ?_)))
      exact At.ret Tryz.results95 (.tmp rfl .nil) ⟨rfl, hE0⟩
/-- A number's figures. -/
def addF : Nat → Nat → Nat → Int → List UInt8
  | 0, _, _, _ => []
  | f + 1, k, n, bias => if n < (bndI k bias).toNat then [letB n] else letB ((bndI k bias).toNat + (n - (bndI k bias).toNat) % (36 - (bndI k bias).toNat)) :: addF f (k + 1) ((n - (bndI k bias).toNat) / (36 - (bndI k bias).toNat)) bias
structure PaS where
  f : Nat
  k : Nat
  n : Nat
  out : List UInt8
  v : Value
theorem padd_any (a0 : World) (base : Nat) (xs : List UInt8) (n : Nat) (bias : Int) (v0 : Value) (w : World) (ho : OwnB w base v0 xs) (hb : base ≤ w.heap.size) (hab : a0.heap.size ≤ base) (ha : Ext a0 w) (hn : n < 10000000000) (hbi : 0 ≤ bias ∧ bias ≤ 1000000) (hl : xs.length ≤ 1000000) :
    Ret Tryz.prog 80 #[v0, .int .i64 (n : Int), .int .i64 bias] w fun v w' => OwnB w' base v (xs ++ addF 20 1 n bias) ∧ Ext a0 w' ∧ w.heap.size ≤ w'.heap.size := by
  have hE0 := ha
  refine Ret.body Tryz.func80 rfl Tryz.ntmps80 rfl (Cd.seq (Cd.region (Seg.step rfl rfl (Yd.assign rfl) (Seg.nil (At.then_ (Cd.seq (Cd.region ?_)))))))
  refine Seg.step rfl rfl (Yd.assign rfl) (Seg.nil (At.then_ (Cd.block ?_)))
  refine Cd.loop (σ := PaS) (fun t => [(0, t.v), (1, .int .i64 (t.n : Int)), (2, .int .i64 bias), (7, .int .i64 (t.k : Int))])
    (fun t w' => (t.n < 10 ^ (t.f - 1) ∧ t.n < 10000000000 ∧ 1 ≤ t.f ∧ t.k + t.f = 21 ∧ t.out.length + t.f = 20 ∧ t.out ++ addF t.f t.k t.n bias = addF 20 1 n bias) ∧ OwnB w' base t.v (xs ++ t.out) ∧ Ext a0 w' ∧ w.heap.size ≤ w'.heap.size) (fun t => t.f) ⟨20, 1, n, [], v0⟩ (.cons rfl (.cons rfl (.cons rfl (.cons rfl (.nil _)))))
    ⟨⟨Nat.lt_of_lt_of_le hn (show (10000000000 : Nat) ≤ 10 ^ 19 by decide), hn, (show 1 ≤ 20 by decide), rfl, rfl, rfl⟩, by rw [List.append_nil]; exact ho, hE0, Nat.le_refl _⟩ ?_
  clear hE0
  rintro ⟨f, k, m, out, v⟩ w1 ⟨⟨hm, hm10, hf, hkf, hof, heq⟩, hO, hE1, hsz⟩
  simp only at hm hm10 hf hkf hof heq hO ⊢
  have kO : Keep (OwnB w1 base v (xs ++ out)) := hO
  have kE1 : Keep (Ext a0 w1) := hE1
  have hEn := Ext.refl w1
  clear hO
  obtain ⟨g, rfl⟩ : ∃ g, f = g + 1 := ⟨f - 1, by omega⟩
  obtain ⟨t1, t2⟩ := bnd_in k bias
  obtain ⟨t, ht⟩ := Int.eq_ofNat_of_zero_le (show 0 ≤ bndI k bias by omega)
  have htn : (bndI k bias).toNat = t := by rw [ht]; rfl
  have hxl : (xs ++ out).length ≤ 1000020 := by rw [List.length_append]; omega
  rw [ht] at t1 t2
  by_cases hlt : m < t
  · have hA : addF (g + 1) k m bias = [letB m] := by unfold addF; rw [htn, if_pos hlt]
    rw [hA] at heq
    refine Cd.seq (Cd.block (Cd.seq (Cd.region (Seg.step rfl rfl (Yd.move rfl) (Seg.step rfl rfl (Yd.move rfl) ?_)))))
    (refine Seg.call rfl rfl (own_of rfl) rfl (pbound_any _ _ _ ⟨by omega, by omega⟩ hbi) ?_; rw [ht]; rintro _ w17 ⟨rfl, hE17⟩)
    replace hE1 := Ext.trans hE1 hE17
    replace hEn := Ext.trans hEn hE17
    refine Seg.step rfl rfl (Yd.assign rfl) (Seg.nil (At.then_ (Cd.seq (Cd.seq (Cd.region (Seg.step rfl rfl (Yd.move rfl) (Seg.step rfl rfl (Yd.move rfl) ?_)))))))
    refine Seg.step rfl rfl (Yd.lss rfl rfl) (Seg.nil (At.then_ ?_))
    refine Cd.condk rfl (fun h29 => ?_) (fun h29 => ?_)
    · refine Cd.seq (Cd.region (Seg.step rfl rfl (Yd.move rfl) (Seg.step rfl rfl (Yd.move rfl) ?_)))
      (refine Seg.call rfl rfl (own_of rfl) rfl (pletter_any m _ (by omega)) ?_; rintro _ w35 ⟨rfl, hE35⟩)
      replace hE17 := Ext.trans hE17 hE35
      replace hE1 := Ext.trans hE1 hE35
      replace hEn := Ext.trans hEn hE35
      refine Seg.buildSliceV rfl rfl rfl rfl rfl rfl rfl rfl rfl rfl (fun w36 b36 hE36 hB36 hb36 hO36 => ?_)
      have hlt36_0 := Nat.le_trans hE35.size hb36
      have hlt36_1 := Nat.le_trans hE17.size hb36
      have hlt36_2 := Nat.le_trans hE1.size hb36
      have hlt36_3 := Nat.le_trans hEn.size hb36
      replace hE35 := Ext.trans hE35 hE36
      replace hE17 := Ext.trans hE17 hE36
      replace hE1 := Ext.trans hE1 hE36
      replace hEn := Ext.trans hEn hE36
      (refine Seg.appB (m := [letB m]) rfl rfl rfl rfl rfl (own_ext kO hEn) (own_sl (by assumption)) (by have := Below.size hEn; omega) (by show _ + 1 ≤ _; omega) (fun v37 w37 hO37 _ hX37 hS37 _ => ?_); have hE3 := hX37 a0 (Ext.trans kE1 hEn) hab; have hs1 := Nat.le_trans (Nat.le_trans hsz (Below.size hEn)) hS37)
      refine Seg.step rfl rfl (Yd.assign rfl) (Seg.nil (At.then_ (Cd.ret (At.then_ret (At.blk_ret (At.then_ret (At.then_ret ?_)))))))
      refine At.blk_ret ?_
      exact At.ret Tryz.results80 (.tmp rfl .nil) ⟨by rw [← heq, ← List.append_assoc]; assumption, hE3, hs1⟩
    · exfalso; omega
  · have hA : addF (g + 1) k m bias = letB (t + (m - t) % (36 - t)) :: addF g (k + 1) ((m - t) / (36 - t)) bias := by
      conv => lhs; unfold addF
      rw [htn, if_neg hlt]
    have hq : (m - t) / (36 - t) ≤ m / 10 := by
      calc (m - t) / (36 - t) ≤ (m - t) / 10 := Nat.div_le_div_left (by omega) (by omega)
        _ ≤ m / 10 := Nat.div_le_div_right (by omega)
    have hr : (m - t) % (36 - t) < 36 - t := Nat.mod_lt _ (by omega)
    have hg1 : 1 ≤ g := by
      rcases Nat.eq_zero_or_pos g with rfl | h
      · simp at hm
        omega
      · exact h
    have hm' : (m - t) / (36 - t) < 10 ^ (g - 1) := by
      refine Nat.lt_of_le_of_lt hq ?_
      rw [Nat.div_lt_iff_lt_mul (by decide), ← Nat.pow_succ]
      show m < 10 ^ (g - 1 + 1)
      rw [show g - 1 + 1 = g by omega]
      exact hm
    have hm2 : (m - t) / (36 - t) < 10000000000 := by omega
    have v1 : (m : Int) - (t : Int) = ((m - t : Nat) : Int) := by omega
    have v2 : (36 : Int) - (t : Int) = ((36 - t : Nat) : Int) := by omega
    have v3 : ((m - t : Nat) : Int) % ((36 - t : Nat) : Int) = (((m - t) % (36 - t) : Nat) : Int) := rfl
    have v4 : ((m - t : Nat) : Int) / ((36 - t : Nat) : Int) = (((m - t) / (36 - t) : Nat) : Int) := rfl
    have v5 : (t : Int) + (((m - t) % (36 - t) : Nat) : Int) = ((t + (m - t) % (36 - t) : Nat) : Int) := rfl
    rw [hA] at heq
    have heq' : (out ++ [letB (t + (m - t) % (36 - t))]) ++ addF g (k + 1) ((m - t) / (36 - t)) bias = addF 20 1 n bias := by rw [← heq]; simp
    refine Cd.seq (Cd.block (Cd.seq (Cd.region (Seg.step rfl rfl (Yd.move rfl) (Seg.step rfl rfl (Yd.move rfl) ?_)))))
    (refine Seg.call rfl rfl (own_of rfl) rfl (pbound_any _ _ _ ⟨by omega, by omega⟩ hbi) ?_; rw [ht]; rintro _ w17 ⟨rfl, hE17⟩)
    replace hE1 := Ext.trans hE1 hE17
    replace hEn := Ext.trans hEn hE17
    refine Seg.step rfl rfl (Yd.assign rfl) (Seg.nil (At.then_ (Cd.seq (Cd.seq (Cd.region (Seg.step rfl rfl (Yd.move rfl) (Seg.step rfl rfl (Yd.move rfl) ?_)))))))
    refine Seg.step rfl rfl (Yd.lss rfl rfl) (Seg.nil (At.then_ ?_))
    refine Cd.condk rfl (fun h29 => ?_) (fun h29 => ?_)
    · exfalso; omega
    · refine Cd.skip (At.then_ (Cd.seq (Cd.region (Seg.step rfl rfl (Yd.move rfl) (Seg.step rfl rfl (Yd.move rfl) (Seg.step rfl rfl (Yd.move rfl) (Seg.step rfl rfl (Yd.move rfl) ?_)))))))
      first | (refine Seg.step rfl rfl (Yd.subI rfl rfl (by omega)) ?_; first | rw [v1] | rw [v2]) | (refine Seg.step rfl rfl (Yd.remN rfl rfl (by omega) (by omega)) ?_; rw [v3]) | (refine Seg.step rfl rfl (Yd.quoP rfl rfl (by omega) (by omega) (by omega)) ?_; rw [v4]) | (refine Seg.step rfl rfl (Yd.addI rfl rfl (by omega)) ?_; rw [v5])
      refine Seg.step rfl rfl (Yd.move rfl) ?_
      first | (refine Seg.step rfl rfl (Yd.subI rfl rfl (by omega)) ?_; first | rw [v1] | rw [v2]) | (refine Seg.step rfl rfl (Yd.remN rfl rfl (by omega) (by omega)) ?_; rw [v3]) | (refine Seg.step rfl rfl (Yd.quoP rfl rfl (by omega) (by omega) (by omega)) ?_; rw [v4]) | (refine Seg.step rfl rfl (Yd.addI rfl rfl (by omega)) ?_; rw [v5])
      first | (refine Seg.step rfl rfl (Yd.subI rfl rfl (by omega)) ?_; first | rw [v1] | rw [v2]) | (refine Seg.step rfl rfl (Yd.remN rfl rfl (by omega) (by omega)) ?_; rw [v3]) | (refine Seg.step rfl rfl (Yd.quoP rfl rfl (by omega) (by omega) (by omega)) ?_; rw [v4]) | (refine Seg.step rfl rfl (Yd.addI rfl rfl (by omega)) ?_; rw [v5])
      first | (refine Seg.step rfl rfl (Yd.subI rfl rfl (by omega)) ?_; first | rw [v1] | rw [v2]) | (refine Seg.step rfl rfl (Yd.remN rfl rfl (by omega) (by omega)) ?_; rw [v3]) | (refine Seg.step rfl rfl (Yd.quoP rfl rfl (by omega) (by omega) (by omega)) ?_; rw [v4]) | (refine Seg.step rfl rfl (Yd.addI rfl rfl (by omega)) ?_; rw [v5])
      (refine Seg.call rfl rfl (own_of rfl) rfl (pletter_any _ _ (by omega)) ?_; rintro _ w44 ⟨rfl, hE44⟩)
      replace hE17 := Ext.trans hE17 hE44
      replace hE1 := Ext.trans hE1 hE44
      replace hEn := Ext.trans hEn hE44
      refine Seg.buildSliceV rfl rfl rfl rfl rfl rfl rfl rfl rfl rfl (fun w45 b45 hE45 hB45 hb45 hO45 => ?_)
      have hlt45_0 := Nat.le_trans hE44.size hb45
      have hlt45_1 := Nat.le_trans hE17.size hb45
      have hlt45_2 := Nat.le_trans hE1.size hb45
      have hlt45_3 := Nat.le_trans hEn.size hb45
      replace hE44 := Ext.trans hE44 hE45
      replace hE17 := Ext.trans hE17 hE45
      replace hE1 := Ext.trans hE1 hE45
      replace hEn := Ext.trans hEn hE45
      (refine Seg.appB (m := [letB (t + (m - t) % (36 - t))]) rfl rfl rfl rfl rfl (own_ext kO hEn) (own_sl (by assumption)) (by have := Below.size hEn; omega) (by show _ + 1 ≤ _; omega) (fun v46 w46 hO46 _ hX46 hS46 _ => ?_); have hE3 := hX46 a0 (Ext.trans kE1 hEn) hab; have hs1 := Nat.le_trans (Nat.le_trans hsz (Below.size hEn)) hS46)
      refine Seg.step rfl rfl (Yd.assign rfl) (Seg.nil (At.then_ (Cd.region (Seg.step rfl rfl (Yd.move rfl) (Seg.step rfl rfl (Yd.move rfl) ?_)))))
      first | (refine Seg.step rfl rfl (Yd.subI rfl rfl (by omega)) ?_; first | rw [v1] | rw [v2]) | (refine Seg.step rfl rfl (Yd.remN rfl rfl (by omega) (by omega)) ?_; rw [v3]) | (refine Seg.step rfl rfl (Yd.quoP rfl rfl (by omega) (by omega) (by omega)) ?_; rw [v4]) | (refine Seg.step rfl rfl (Yd.addI rfl rfl (by omega)) ?_; rw [v5])
      refine Seg.step rfl rfl (Yd.move rfl) ?_
      first | (refine Seg.step rfl rfl (Yd.subI rfl rfl (by omega)) ?_; first | rw [v1] | rw [v2]) | (refine Seg.step rfl rfl (Yd.remN rfl rfl (by omega) (by omega)) ?_; rw [v3]) | (refine Seg.step rfl rfl (Yd.quoP rfl rfl (by omega) (by omega) (by omega)) ?_; rw [v4]) | (refine Seg.step rfl rfl (Yd.addI rfl rfl (by omega)) ?_; rw [v5])
      first | (refine Seg.step rfl rfl (Yd.subI rfl rfl (by omega)) ?_; first | rw [v1] | rw [v2]) | (refine Seg.step rfl rfl (Yd.remN rfl rfl (by omega) (by omega)) ?_; rw [v3]) | (refine Seg.step rfl rfl (Yd.quoP rfl rfl (by omega) (by omega) (by omega)) ?_; rw [v4]) | (refine Seg.step rfl rfl (Yd.addI rfl rfl (by omega)) ?_; rw [v5])
      refine Seg.step rfl rfl (Yd.assign rfl) (Seg.nil (At.blk (At.then_ (Cd.region (Seg.step rfl rfl (Yd.move rfl) (Seg.step rfl rfl (Yd.addI rfl rfl (by omega)) (Seg.step rfl rfl (Yd.assign rfl) ?_)))))))
      refine Seg.nil ?_
      exact At.round (⟨g, k + 1, (m - t) / (36 - t), out ++ [letB (t + (m - t) % (36 - t))], _⟩ : PaS) (.cons rfl (.cons rfl (.cons rfl (.cons rfl (.nil _))))) ⟨⟨hm', hm2, hg1, by show k + 1 + g = 21; omega, by rw [List.length_append]; show _ + 1 + g = 20; omega, heq'⟩, by rw [← List.append_assoc]; assumption, hE3, hs1⟩ (Nat.lt_succ_self g)
def redF : Nat → Nat → Nat → Nat × Nat
  | 0, d, j => (d, j)
  | f + 1, d, j => if 455 < d then redF f (d / 35) (j + 1) else (d, j)
/-- The bias behind a number. -/
def behF (d n : Nat) (first : Bool) : Nat :=
  36 * (redF 10 ((if first then d / 700 else d / 2) + (if first then d / 700 else d / 2) / n) 0).2 + 36 * (redF 10 ((if first then d / 700 else d / 2) + (if first then d / 700 else d / 2) / n) 0).1 / ((redF 10 ((if first then d / 700 else d / 2) + (if first then d / 700 else d / 2) / n) 0).1 + 38)
theorem red_bd : ∀ (f d j : Nat), (redF f d j).2 ≤ j + f ∧ j ≤ (redF f d j).2
  | 0, d, j => ⟨Nat.le_refl _, Nat.le_refl _⟩
  | f + 1, d, j => by
    unfold redF
    split
    · have := red_bd f (d / 35) (j + 1); omega
    · exact ⟨Nat.le_add_right _ _, Nat.le_refl _⟩
theorem beh_bd (d n : Nat) (first : Bool) : behF d n first ≤ 1000 := by
  unfold behF
  generalize (if first then d / 700 else d / 2) + (if first then d / 700 else d / 2) / n = e
  have h := red_bd 10 e 0
  generalize (redF 10 e 0).1 = x
  have h2 : 36 * x / (x + 38) ≤ 36 := by
    refine Nat.div_le_of_le_mul ?_
    rw [Nat.add_mul, Nat.mul_comm 36]; omega
  omega
structure RdS where
  f : Nat
  d : Nat
  j : Nat
theorem pbehind_any (d n : Nat) (first : Bool) (w : World) (hd : d ≤ 10000000000) (hn : 1 ≤ n) (hn2 : n ≤ 1000000) : Ret Tryz.prog 81 #[.int .i64 (d : Int), .int .i64 (n : Int), .bool first] w fun v w' => v = .int .i64 (behF d n first : Nat) ∧ Ext w w' := by
  have hE0 := Ext.refl w
  refine Ret.body Tryz.func81 rfl Tryz.ntmps81 rfl ?_
  obtain ⟨d1, h1⟩ : ∃ d1, d1 = (if first then d / 700 else d / 2) := ⟨_, rfl⟩
  have hd1 : d1 ≤ 10000000000 := by rw [h1]; split <;> omega
  have hdn : d1 / n ≤ d1 := Nat.div_le_self _ _
  unfold behF
  rw [← h1]
  generalize hdq : d1 / n = dq at hdn ⊢
  obtain ⟨R, hR⟩ : ∃ R, R = 36 * (redF 10 (d1 + dq) 0).2 + 36 * (redF 10 (d1 + dq) 0).1 / ((redF 10 (d1 + dq) 0).1 + 38) := ⟨_, rfl⟩
  rw [← hR]
  have q3 : ((d1 : Nat) : Int) + (dq : Int) = ((d1 + dq : Nat) : Int) := rfl
  have q2 : ((d1 : Nat) : Int) / ((n : Nat) : Int) = (dq : Int) := by rw [← hdq]; rfl
  cases first
  · have q1 : ((d : Nat) : Int) / 2 = ((d1 : Nat) : Int) := by rw [h1]; rfl
    refine Cd.seq (Cd.region (Seg.step rfl rfl (Yd.assign rfl) (Seg.nil (At.then_ (Cd.seq (Cd.seq (Cd.region ?_)))))))
    refine Seg.step rfl rfl (Yd.move rfl) (Seg.nil (At.then_ (Cd.condF rfl (Cd.region (Seg.step rfl rfl (Yd.move rfl) ?_)))))
    first | (refine Seg.step rfl rfl (Yd.quoP rfl rfl (by omega) (by omega) (by omega)) ?_; first | rw [q1] | rw [q2]) | (refine Seg.step rfl rfl (Yd.addI rfl rfl (by omega)) ?_; rw [q3])
    refine Seg.step rfl rfl (Yd.assign rfl) (Seg.nil (At.then_ (Cd.seq (Cd.region (Seg.step rfl rfl (Yd.move rfl) (Seg.step rfl rfl (Yd.move rfl) (Seg.step rfl rfl (Yd.move rfl) ?_)))))))
    first | (refine Seg.step rfl rfl (Yd.quoP rfl rfl (by omega) (by omega) (by omega)) ?_; first | rw [q1] | rw [q2]) | (refine Seg.step rfl rfl (Yd.addI rfl rfl (by omega)) ?_; rw [q3])
    first | (refine Seg.step rfl rfl (Yd.quoP rfl rfl (by omega) (by omega) (by omega)) ?_; first | rw [q1] | rw [q2]) | (refine Seg.step rfl rfl (Yd.addI rfl rfl (by omega)) ?_; rw [q3])
    refine Seg.step rfl rfl (Yd.assign rfl) (Seg.nil (At.then_ (Cd.seq (Cd.region (Seg.step rfl rfl (Yd.assign rfl) (Seg.nil (At.then_ ?_)))))))
    refine Cd.seq (Cd.block ?_)
    refine Cd.loop (σ := RdS) (fun t => [(0, .int .i64 (t.d : Int)), (7, .int .i64 (t.j : Int))])
      (fun t w' => (redF t.f t.d t.j = redF 10 (d1 + dq) 0 ∧ t.d ≤ 455 * 35 ^ t.f ∧ t.d ≤ 20000000000 ∧ t.j + t.f = 10) ∧ Ext w w') (fun t => t.f) ⟨10, d1 + dq, 0⟩ (.cons rfl (.cons rfl (.nil _))) ⟨⟨rfl, Nat.le_trans (show d1 + dq ≤ 20000000000 by omega) (by show (20000000000 : Nat) ≤ 455 * 35 ^ 10; decide), by show d1 + dq ≤ _; omega, rfl⟩, hE0⟩ ?_
    clear hE0
    rintro ⟨f, e, j⟩ w1 ⟨⟨hr, he, hle, hj⟩, hE0⟩
    simp only at hr he hle hj ⊢
    by_cases hgt : 455 < e
    · obtain ⟨g, rfl⟩ : ∃ g, f = g + 1 := by
        cases f with
        | zero => simp at he; omega
        | succ g => exact ⟨g, rfl⟩
      have hr' : redF g (e / 35) (j + 1) = redF 10 (d1 + dq) 0 := by
        rw [← hr]
        conv => rhs; unfold redF
        rw [if_pos hgt]
      have he' : e / 35 ≤ 455 * 35 ^ g := by
        refine Nat.div_le_of_le_mul ?_
        rw [Nat.pow_succ] at he
        omega
      have q5 : ((e : Nat) : Int) / 35 = ((e / 35 : Nat) : Int) := rfl
      refine Cd.seq (Cd.seq (Cd.region (Seg.step rfl rfl (Yd.move rfl) (Seg.step rfl rfl (Yd.gtr rfl rfl) (Seg.nil (At.then_ ?_))))))
      refine Cd.condk rfl (fun h10 => ?_) (fun h10 => ?_)
      · refine Cd.skip (At.then_ (Cd.block (Cd.seq (Cd.region (Seg.step rfl rfl (Yd.move rfl) ?_)))))
        first | (refine Seg.step rfl rfl (Yd.quoP rfl rfl (by omega) (by omega) (by omega)) ?_; rw [q5])
        refine Seg.step rfl rfl (Yd.assign rfl) (Seg.nil (At.then_ (Cd.region (Seg.step rfl rfl (Yd.move rfl) (Seg.step rfl rfl (Yd.addI rfl rfl (by omega)) (Seg.step rfl rfl (Yd.assign rfl) (Seg.nil ?_)))))))
        refine At.blk ?_
        exact At.round (⟨g, e / 35, j + 1⟩ : RdS) (.cons rfl (.cons rfl (.nil _))) ⟨⟨hr', he', by show e / 35 ≤ _; omega, by show j + 1 + g = 10; omega⟩, hE0⟩ (Nat.lt_succ_self g)
      · exfalso; omega
    · have hfin : redF 10 (d1 + dq) 0 = (e, j) := by
        rw [← hr]
        cases f with
        | zero => rfl
        | succ g => unfold redF; rw [if_neg hgt]
      obtain ⟨x, hx⟩ : ∃ x, 36 * e / (e + 38) = x := ⟨_, rfl⟩
      have hRx : (R : Int) = ((36 * j : Nat) : Int) + (x : Int) := by
        rw [hR, hfin]
        show ((36 * j + 36 * e / (e + 38) : Nat) : Int) = _
        rw [hx]; rfl
      have q6 : (36 : Int) * (j : Int) = ((36 * j : Nat) : Int) := rfl
      have q7 : (36 : Int) * (e : Int) = ((36 * e : Nat) : Int) := rfl
      have q8 : (e : Int) + 38 = ((e + 38 : Nat) : Int) := rfl
      have q9 : ((36 * e : Nat) : Int) / ((e + 38 : Nat) : Int) = (x : Int) := by rw [← hx]; rfl
      have q10 : x ≤ 36 * e := by rw [← hx]; exact Nat.div_le_self _ _
      refine Cd.seq (Cd.seq (Cd.region (Seg.step rfl rfl (Yd.move rfl) (Seg.step rfl rfl (Yd.gtr rfl rfl) (Seg.nil (At.then_ ?_))))))
      refine Cd.condk rfl (fun h10 => ?_) (fun h10 => ?_)
      · exfalso; omega
      · refine Cd.exit (At.then_exit (At.then_exit (At.blk_same (At.then_ (Cd.seq (Cd.region (Seg.step rfl rfl (Yd.move rfl) ?_)))))))
        first | (refine Seg.step rfl rfl (Yd.mulI rfl rfl (by omega)) ?_; first | rw [q6] | rw [q7]) | (refine Seg.step rfl rfl (Yd.addI rfl rfl (by omega)) ?_; rw [q8]) | (refine Seg.step rfl rfl (Yd.quoP rfl rfl (by omega) (by omega) (by omega)) ?_; rw [q9])
        refine Seg.step rfl rfl (Yd.move rfl) ?_
        first | (refine Seg.step rfl rfl (Yd.mulI rfl rfl (by omega)) ?_; first | rw [q6] | rw [q7]) | (refine Seg.step rfl rfl (Yd.addI rfl rfl (by omega)) ?_; rw [q8]) | (refine Seg.step rfl rfl (Yd.quoP rfl rfl (by omega) (by omega) (by omega)) ?_; rw [q9])
        refine Seg.step rfl rfl (Yd.move rfl) ?_
        first | (refine Seg.step rfl rfl (Yd.mulI rfl rfl (by omega)) ?_; first | rw [q6] | rw [q7]) | (refine Seg.step rfl rfl (Yd.addI rfl rfl (by omega)) ?_; rw [q8]) | (refine Seg.step rfl rfl (Yd.quoP rfl rfl (by omega) (by omega) (by omega)) ?_; rw [q9])
        first | (refine Seg.step rfl rfl (Yd.mulI rfl rfl (by omega)) ?_; first | rw [q6] | rw [q7]) | (refine Seg.step rfl rfl (Yd.addI rfl rfl (by omega)) ?_; rw [q8]) | (refine Seg.step rfl rfl (Yd.quoP rfl rfl (by omega) (by omega) (by omega)) ?_; rw [q9])
        refine Seg.step rfl rfl (Yd.addI rfl rfl (by omega)) (Seg.step rfl rfl (Yd.assign rfl) (Seg.nil (At.then_ (Cd.ret ?_))))
        exact At.ret Tryz.results81 (.tmp rfl .nil) ⟨congrArg (Value.int .i64) hRx.symm, hE0⟩
  · have q1 : ((d : Nat) : Int) / 700 = ((d1 : Nat) : Int) := by rw [h1]; rfl
    refine Cd.seq (Cd.region (Seg.step rfl rfl (Yd.assign rfl) (Seg.nil (At.then_ (Cd.seq (Cd.seq (Cd.region ?_)))))))
    refine Seg.step rfl rfl (Yd.move rfl) (Seg.nil (At.then_ (Cd.condT rfl (Cd.region (Seg.step rfl rfl (Yd.move rfl) ?_)))))
    first | (refine Seg.step rfl rfl (Yd.quoP rfl rfl (by omega) (by omega) (by omega)) ?_; first | rw [q1] | rw [q2]) | (refine Seg.step rfl rfl (Yd.addI rfl rfl (by omega)) ?_; rw [q3])
    refine Seg.step rfl rfl (Yd.assign rfl) (Seg.nil (At.then_ (Cd.seq (Cd.region (Seg.step rfl rfl (Yd.move rfl) (Seg.step rfl rfl (Yd.move rfl) (Seg.step rfl rfl (Yd.move rfl) ?_)))))))
    first | (refine Seg.step rfl rfl (Yd.quoP rfl rfl (by omega) (by omega) (by omega)) ?_; first | rw [q1] | rw [q2]) | (refine Seg.step rfl rfl (Yd.addI rfl rfl (by omega)) ?_; rw [q3])
    first | (refine Seg.step rfl rfl (Yd.quoP rfl rfl (by omega) (by omega) (by omega)) ?_; first | rw [q1] | rw [q2]) | (refine Seg.step rfl rfl (Yd.addI rfl rfl (by omega)) ?_; rw [q3])
    refine Seg.step rfl rfl (Yd.assign rfl) (Seg.nil (At.then_ (Cd.seq (Cd.region (Seg.step rfl rfl (Yd.assign rfl) (Seg.nil (At.then_ ?_)))))))
    refine Cd.seq (Cd.block ?_)
    refine Cd.loop (σ := RdS) (fun t => [(0, .int .i64 (t.d : Int)), (7, .int .i64 (t.j : Int))])
      (fun t w' => (redF t.f t.d t.j = redF 10 (d1 + dq) 0 ∧ t.d ≤ 455 * 35 ^ t.f ∧ t.d ≤ 20000000000 ∧ t.j + t.f = 10) ∧ Ext w w') (fun t => t.f) ⟨10, d1 + dq, 0⟩ (.cons rfl (.cons rfl (.nil _))) ⟨⟨rfl, Nat.le_trans (show d1 + dq ≤ 20000000000 by omega) (by show (20000000000 : Nat) ≤ 455 * 35 ^ 10; decide), by show d1 + dq ≤ _; omega, rfl⟩, hE0⟩ ?_
    clear hE0
    rintro ⟨f, e, j⟩ w1 ⟨⟨hr, he, hle, hj⟩, hE0⟩
    simp only at hr he hle hj ⊢
    by_cases hgt : 455 < e
    · obtain ⟨g, rfl⟩ : ∃ g, f = g + 1 := by
        cases f with
        | zero => simp at he; omega
        | succ g => exact ⟨g, rfl⟩
      have hr' : redF g (e / 35) (j + 1) = redF 10 (d1 + dq) 0 := by
        rw [← hr]
        conv => rhs; unfold redF
        rw [if_pos hgt]
      have he' : e / 35 ≤ 455 * 35 ^ g := by
        refine Nat.div_le_of_le_mul ?_
        rw [Nat.pow_succ] at he
        omega
      have q5 : ((e : Nat) : Int) / 35 = ((e / 35 : Nat) : Int) := rfl
      refine Cd.seq (Cd.seq (Cd.region (Seg.step rfl rfl (Yd.move rfl) (Seg.step rfl rfl (Yd.gtr rfl rfl) (Seg.nil (At.then_ ?_))))))
      refine Cd.condk rfl (fun h10 => ?_) (fun h10 => ?_)
      · refine Cd.skip (At.then_ (Cd.block (Cd.seq (Cd.region (Seg.step rfl rfl (Yd.move rfl) ?_)))))
        first | (refine Seg.step rfl rfl (Yd.quoP rfl rfl (by omega) (by omega) (by omega)) ?_; rw [q5])
        refine Seg.step rfl rfl (Yd.assign rfl) (Seg.nil (At.then_ (Cd.region (Seg.step rfl rfl (Yd.move rfl) (Seg.step rfl rfl (Yd.addI rfl rfl (by omega)) (Seg.step rfl rfl (Yd.assign rfl) (Seg.nil ?_)))))))
        refine At.blk ?_
        exact At.round (⟨g, e / 35, j + 1⟩ : RdS) (.cons rfl (.cons rfl (.nil _))) ⟨⟨hr', he', by show e / 35 ≤ _; omega, by show j + 1 + g = 10; omega⟩, hE0⟩ (Nat.lt_succ_self g)
      · exfalso; omega
    · have hfin : redF 10 (d1 + dq) 0 = (e, j) := by
        rw [← hr]
        cases f with
        | zero => rfl
        | succ g => unfold redF; rw [if_neg hgt]
      obtain ⟨x, hx⟩ : ∃ x, 36 * e / (e + 38) = x := ⟨_, rfl⟩
      have hRx : (R : Int) = ((36 * j : Nat) : Int) + (x : Int) := by
        rw [hR, hfin]
        show ((36 * j + 36 * e / (e + 38) : Nat) : Int) = _
        rw [hx]; rfl
      have q6 : (36 : Int) * (j : Int) = ((36 * j : Nat) : Int) := rfl
      have q7 : (36 : Int) * (e : Int) = ((36 * e : Nat) : Int) := rfl
      have q8 : (e : Int) + 38 = ((e + 38 : Nat) : Int) := rfl
      have q9 : ((36 * e : Nat) : Int) / ((e + 38 : Nat) : Int) = (x : Int) := by rw [← hx]; rfl
      have q10 : x ≤ 36 * e := by rw [← hx]; exact Nat.div_le_self _ _
      refine Cd.seq (Cd.seq (Cd.region (Seg.step rfl rfl (Yd.move rfl) (Seg.step rfl rfl (Yd.gtr rfl rfl) (Seg.nil (At.then_ ?_))))))
      refine Cd.condk rfl (fun h10 => ?_) (fun h10 => ?_)
      · exfalso; omega
      · refine Cd.exit (At.then_exit (At.then_exit (At.blk_same (At.then_ (Cd.seq (Cd.region (Seg.step rfl rfl (Yd.move rfl) ?_)))))))
        first | (refine Seg.step rfl rfl (Yd.mulI rfl rfl (by omega)) ?_; first | rw [q6] | rw [q7]) | (refine Seg.step rfl rfl (Yd.addI rfl rfl (by omega)) ?_; rw [q8]) | (refine Seg.step rfl rfl (Yd.quoP rfl rfl (by omega) (by omega) (by omega)) ?_; rw [q9])
        refine Seg.step rfl rfl (Yd.move rfl) ?_
        first | (refine Seg.step rfl rfl (Yd.mulI rfl rfl (by omega)) ?_; first | rw [q6] | rw [q7]) | (refine Seg.step rfl rfl (Yd.addI rfl rfl (by omega)) ?_; rw [q8]) | (refine Seg.step rfl rfl (Yd.quoP rfl rfl (by omega) (by omega) (by omega)) ?_; rw [q9])
        refine Seg.step rfl rfl (Yd.move rfl) ?_
        first | (refine Seg.step rfl rfl (Yd.mulI rfl rfl (by omega)) ?_; first | rw [q6] | rw [q7]) | (refine Seg.step rfl rfl (Yd.addI rfl rfl (by omega)) ?_; rw [q8]) | (refine Seg.step rfl rfl (Yd.quoP rfl rfl (by omega) (by omega) (by omega)) ?_; rw [q9])
        first | (refine Seg.step rfl rfl (Yd.mulI rfl rfl (by omega)) ?_; first | rw [q6] | rw [q7]) | (refine Seg.step rfl rfl (Yd.addI rfl rfl (by omega)) ?_; rw [q8]) | (refine Seg.step rfl rfl (Yd.quoP rfl rfl (by omega) (by omega) (by omega)) ?_; rw [q9])
        refine Seg.step rfl rfl (Yd.addI rfl rfl (by omega)) (Seg.step rfl rfl (Yd.assign rfl) (Seg.nil (At.then_ (Cd.ret ?_))))
        exact At.ret Tryz.results81 (.tmp rfl .nil) ⟨congrArg (Value.int .i64) hRx.symm, hE0⟩
/-- The least point that is not below n. -/
def leastF (l : List Nat) (n : Nat) : Nat := l.foldl (fun m c => if n ≤ c ∧ c < m then c else m) 1114112
theorem least_snoc (l : List Nat) (n c : Nat) : leastF (l ++ [c]) n = if n ≤ c ∧ c < leastF l n then c else leastF l n := by
  unfold leastF
  rw [List.foldl_append]
  rfl
theorem r32_at {l : List Nat} {i c : Nat} (h : l[i]? = some c) : (r32 l)[i]? = some (.int .i32 (c : Int)) := by simp [r32, h]
theorem pleast_any (l : List Nat) (n : Nat) (v0 : Value) (w : World) (h0 : Sl w 1 v0 l.length (r32 l)) (hl : l.length ≤ 1000000) (hc : ∀ c ∈ l, c < 1114112) : Ret Tryz.prog 79 #[v0, .int .i64 (n : Int)] w fun v w' => v = .int .i64 (leastF l n : Nat) ∧ Ext w w' := by
  have hE0 := Ext.refl w
  obtain ⟨ao, c, rfl, hl0, hr0, hz0⟩ := h0
  refine Ret.body Tryz.func79 rfl Tryz.ntmps79 rfl (Cd.seq (Cd.region (Seg.step rfl rfl (Yd.assign rfl) (Seg.nil (At.then_ (Cd.seq (Cd.region ?_)))))))
  refine Seg.step rfl rfl (Yd.assign rfl) (Seg.nil (At.then_ (Cd.seq (Cd.seq (Cd.region (Seg.step rfl rfl (Yd.move rfl) (Seg.step rfl rfl (Yd.lenS rfl rfl) ?_)))))))
  refine Seg.step rfl rfl (Yd.move rfl) (Seg.nil (At.then_ (Cd.block ?_)))
  refine Cd.loop (σ := Nat) (fun i => [(1, .int .i64 (n : Int)), (5, .int .i64 (leastF (l.take i) n : Nat)), (8, .slice ao l.length c), (9, .int .i64 (l.length : Int)), (10, .int .i64 (i : Int))])
    (fun i w' => i ≤ l.length ∧ Ext w w') (fun i => l.length - i) 0 (.cons rfl (.cons rfl (.cons rfl (.cons rfl (.cons rfl (.nil _)))))) ⟨Nat.zero_le _, hE0⟩ ?_
  clear hE0
  rintro i w1 ⟨hi, hE0⟩
  by_cases hlt : i < l.length
  · obtain ⟨a, rfl⟩ : ∃ a, ao = some a := by
      cases ao with
      | none => have := hz0 rfl; omega
      | some a => exact ⟨a, rfl⟩
    have hr0 := hr0 a rfl
    obtain ⟨x, hx⟩ : ∃ x, l[i]? = some x := ⟨_, List.getElem?_eq_getElem hlt⟩
    have hxl := hc x (List.mem_of_getElem? hx)
    have hxw : IntKind.i64.wrap (x : Int) = (x : Int) := IntWalk.i64_in _ ⟨by omega, by omega⟩
    have hst : l.take (i + 1) = l.take i ++ [x] := by rw [List.take_add_one, hx]; rfl
    by_cases hcc : n ≤ x ∧ x < leastF (l.take i) n
    · have hL : leastF (l.take (i + 1)) n = x := by rw [hst, least_snoc, if_pos hcc]
      refine Cd.seq (Cd.region (Seg.step rfl rfl (Yd.lss rfl rfl) (Seg.nil (At.then_ (Cd.seq ?_)))))
      refine Cd.condk rfl (fun h8 => ?_) (fun h8 => ?_)
      · refine Cd.skip (At.then_ (Cd.seq (Cd.block (Cd.seq (Cd.region (Seg.step rfl rfl (Yd.indexAddr1 rfl rfl rfl (NatOf.cast _) (by omega)) (Seg.step rfl rfl (Yd.load1 rfl rfl ((hr0.ext hE0) _ _ (r32_at hx))) ?_)))))))
        refine Seg.step rfl rfl (Yd.assign rfl) (Seg.nil (At.then_ (Cd.seq (Cd.region (Seg.step rfl rfl (Yd.move rfl) ?_)))))
        (refine Seg.step rfl rfl (Yd.convN rfl rfl rfl hxw) ?_)
        refine Seg.step rfl rfl (Yd.move rfl) (Seg.step rfl rfl (Yd.geq rfl rfl) (Seg.step rfl rfl (Yd.move rfl) ?_))
        refine Seg.gsplitp rfl rfl (fun h28 => ?_) (fun h28 => ?_)
        · refine Seg.step rfl rfl (Yd.move rfl) ?_
          (refine Seg.step rfl rfl (Yd.convN rfl rfl rfl hxw) ?_)
          refine Seg.step rfl rfl (Yd.move rfl) (Seg.step rfl rfl (Yd.lss rfl rfl) (Seg.step rfl rfl (Yd.pickT rfl rfl) (Seg.nil (At.then_ ?_))))
          refine Cd.condk rfl (fun h37 => ?_) (fun h37 => ?_)
          · refine Cd.region (Seg.step rfl rfl (Yd.move rfl) ?_)
            (refine Seg.step rfl rfl (Yd.convN rfl rfl rfl hxw) ?_)
            refine Seg.step rfl rfl (Yd.assign rfl) (Seg.nil (At.blk (At.then_ (Cd.region (Seg.step rfl rfl (Yd.addI rfl rfl (by omega)) (Seg.step rfl rfl (Yd.move rfl) (Seg.nil ?_)))))))
            exact At.round (i + 1) (by rw [hL]; exact (.cons rfl (.cons rfl (.cons rfl (.cons rfl (.cons rfl (.nil _))))))) ⟨hlt, hE0⟩ (Nat.sub_lt_sub_left hlt (Nat.lt_succ_self i))
          · exfalso; omega
        · exfalso; omega
      · exfalso; omega
    · have hL : leastF (l.take (i + 1)) n = leastF (l.take i) n := by rw [hst, least_snoc, if_neg hcc]
      refine Cd.seq (Cd.region (Seg.step rfl rfl (Yd.lss rfl rfl) (Seg.nil (At.then_ (Cd.seq ?_)))))
      refine Cd.condk rfl (fun h8 => ?_) (fun h8 => ?_)
      · refine Cd.skip (At.then_ (Cd.seq (Cd.block (Cd.seq (Cd.region (Seg.step rfl rfl (Yd.indexAddr1 rfl rfl rfl (NatOf.cast _) (by omega)) (Seg.step rfl rfl (Yd.load1 rfl rfl ((hr0.ext hE0) _ _ (r32_at hx))) ?_)))))))
        refine Seg.step rfl rfl (Yd.assign rfl) (Seg.nil (At.then_ (Cd.seq (Cd.region (Seg.step rfl rfl (Yd.move rfl) ?_)))))
        (refine Seg.step rfl rfl (Yd.convN rfl rfl rfl hxw) ?_)
        refine Seg.step rfl rfl (Yd.move rfl) (Seg.step rfl rfl (Yd.geq rfl rfl) (Seg.step rfl rfl (Yd.move rfl) ?_))
        refine Seg.gsplitp rfl rfl (fun h28 => ?_) (fun h28 => ?_)
        · refine Seg.step rfl rfl (Yd.move rfl) ?_
          (refine Seg.step rfl rfl (Yd.convN rfl rfl rfl hxw) ?_)
          refine Seg.step rfl rfl (Yd.move rfl) (Seg.step rfl rfl (Yd.lss rfl rfl) (Seg.step rfl rfl (Yd.pickT rfl rfl) (Seg.nil (At.then_ ?_))))
          refine Cd.condk rfl (fun h37 => ?_) (fun h37 => ?_)
          · exfalso; omega
          · refine Cd.skip (At.blk (At.then_ (Cd.region (Seg.step rfl rfl (Yd.addI rfl rfl (by omega)) (Seg.step rfl rfl (Yd.move rfl) (Seg.nil ?_))))))
            exact At.round (i + 1) (by rw [hL]; exact (.cons rfl (.cons rfl (.cons rfl (.cons rfl (.cons rfl (.nil _))))))) ⟨hlt, hE0⟩ (Nat.sub_lt_sub_left hlt (Nat.lt_succ_self i))
        · refine Seg.skip rfl rfl (Seg.skip rfl rfl (Seg.skip rfl rfl (Seg.skip rfl rfl (Seg.step rfl rfl (Yd.pickF rfl rfl) (Seg.nil (At.then_ (Cd.condF rfl ?_)))))))
          refine Cd.skip (At.blk (At.then_ (Cd.region (Seg.step rfl rfl (Yd.addI rfl rfl (by omega)) (Seg.step rfl rfl (Yd.move rfl) (Seg.nil ?_))))))
          exact At.round (i + 1) (by rw [hL]; exact (.cons rfl (.cons rfl (.cons rfl (.cons rfl (.cons rfl (.nil _))))))) ⟨hlt, hE0⟩ (Nat.sub_lt_sub_left hlt (Nat.lt_succ_self i))
      · exfalso; omega
  · have hil : l.take i = l := List.take_of_length_le (by omega)
    rw [hil]
    refine Cd.seq (Cd.region (Seg.step rfl rfl (Yd.lss rfl rfl) (Seg.nil (At.then_ (Cd.seq ?_)))))
    refine Cd.condk rfl (fun h8 => ?_) (fun h8 => ?_)
    · exfalso; omega
    · refine Cd.exit (At.then_exit (At.then_exit (At.blk_same (At.then_ (Cd.seq (Cd.region (Seg.step rfl rfl (Yd.move rfl) ?_)))))))
      refine Seg.step rfl rfl (Yd.assign rfl) (Seg.nil (At.then_ (Cd.ret ?_)))
      exact At.ret Tryz.results79 (.tmp rfl .nil) ⟨rfl, hE0⟩
theorem least_in : ∀ (l : List Nat) (n : Nat), (∀ c ∈ l, c < 1114112) → (leastF l n = 1114112 ∧ ∀ c ∈ l, c < n) ∨ (leastF l n ∈ l ∧ n ≤ leastF l n ∧ ∀ c ∈ l, n ≤ c → leastF l n ≤ c) := by
  intro l n
  have key : ∀ (r l : List Nat), l ++ r.reverse = l ++ r.reverse → (∀ c ∈ r, c < 1114112) → (leastF r.reverse n = 1114112 ∧ ∀ c ∈ r, c < n) ∨ (leastF r.reverse n ∈ r ∧ n ≤ leastF r.reverse n ∧ ∀ c ∈ r, n ≤ c → leastF r.reverse n ≤ c) := by
    intro r
    induction r with
    | nil => intro _ _ _; exact .inl ⟨rfl, fun c hc => by cases hc⟩
    | cons c r ih =>
      intro l' _ hb
      have hc := hb c (by simp)
      rw [List.reverse_cons, least_snoc]
      rcases ih l' rfl (fun x hx => hb x (by simp [hx])) with ⟨h1, h2⟩ | ⟨h1, h2, h3⟩
      · by_cases hcc : n ≤ c
        · rw [if_pos ⟨hcc, by omega⟩]
          refine .inr ⟨by simp, hcc, fun x hx hnx => ?_⟩
          rcases List.mem_cons.1 hx with rfl | hx
          · exact Nat.le_refl _
          · have := h2 x hx; omega
        · rw [if_neg (fun h => hcc h.1)]
          refine .inl ⟨h1, fun x hx => ?_⟩
          rcases List.mem_cons.1 hx with rfl | hx
          · omega
          · exact h2 x hx
      · refine .inr ?_
        by_cases hcc : n ≤ c ∧ c < leastF r.reverse n
        · rw [if_pos hcc]
          refine ⟨by simp, hcc.1, fun x hx hnx => ?_⟩
          rcases List.mem_cons.1 hx with rfl | hx
          · exact Nat.le_refl _
          · have := h3 x hx hnx; omega
        · rw [if_neg hcc]
          refine ⟨by simp [h1], h2, fun x hx hnx => ?_⟩
          rcases List.mem_cons.1 hx with rfl | hx
          · omega
          · exact h3 x hx hnx
  intro hb
  have h := key l.reverse [] rfl (fun c hc => hb c (List.mem_reverse.1 hc))
  rw [List.reverse_reverse] at h
  rcases h with ⟨h1, h2⟩ | ⟨h1, h2, h3⟩
  · exact .inl ⟨h1, fun c hc => h2 c (List.mem_reverse.2 hc)⟩
  · exact .inr ⟨List.mem_reverse.1 h1, h2, fun c hc hn => h3 c (List.mem_reverse.2 hc) hn⟩
structure EncS where
  b : List UInt8
  steps : Nat
  n : Nat
  bias : Nat
  done : Nat
def innE (basic m : Nat) (st : EncS) (c : Nat) : EncS :=
  if c < m then { st with steps := st.steps + 1 }
  else if c = m then { st with b := st.b ++ addF 20 1 st.steps (st.bias : Int), steps := 0, bias := behF st.steps (st.done + 1) (decide (st.done = basic)), done := st.done + 1 }
  else st
def preE (l : List Nat) (st : EncS) : EncS := { st with steps := st.steps + (leastF l st.n - st.n) * (st.done + 1), n := leastF l st.n }
def outE (basic : Nat) (l : List Nat) (st : EncS) : EncS :=
  { l.foldl (innE basic (leastF l st.n)) (preE l st) with steps := (l.foldl (innE basic (leastF l st.n)) (preE l st)).steps + 1, n := leastF l st.n + 1 }
def encF (basic : Nat) (l : List Nat) : Nat → EncS → EncS
  | 0, st => st
  | f + 1, st => if st.done < l.length then encF basic l f (outE basic l st) else st
/-- The points below 128. -/
def basB (l : List Nat) : List UInt8 := (l.filter fun c => decide (c < 128)).map UInt8.ofNat
def startE (l : List Nat) : EncS := { b := basB l ++ (if (basB l).length = 0 then [] else [45]), steps := 0, n := 128, bias := 72, done := (basB l).length }
/-- Points, written. -/
def encP (l : List Nat) : List UInt8 := (encF (basB l).length l l.length (startE l)).b
theorem addF_len : ∀ (f k n : Nat) (b : Int), (addF f k n b).length ≤ f
  | 0, _, _, _ => Nat.le_refl _
  | f + 1, k, n, b => by
    unfold addF
    split
    · simp
    · have := addF_len f (k + 1) ((n - (bndI k b).toNat) / (36 - (bndI k b).toNat)) b
      rw [List.length_cons]; omega
def Inv1 (l : List Nat) (st : EncS) : Prop := 128 ≤ st.n ∧ st.n ≤ 1114112 ∧ st.done = l.countP (fun c => decide (c < st.n)) ∧ st.steps ≤ st.n * (l.length + 1) ∧ st.bias ≤ 1000 ∧ st.b.length ≤ l.length + 1 + 20 * st.done
def Inv2 (l : List Nat) (m i : Nat) (st : EncS) : Prop := st.n = m ∧ st.done = l.countP (fun c => decide (c < m)) + (l.take i).countP (fun c => decide (c = m)) ∧ st.steps ≤ m * (l.length + 1) + i ∧ st.bias ≤ 1000 ∧ st.b.length ≤ l.length + 1 + 20 * st.done
theorem cnt_take {l : List Nat} {i c m : Nat} (h : l[i]? = some c) : (l.take (i + 1)).countP (fun c => decide (c = m)) = (l.take i).countP (fun c => decide (c = m)) + (if c = m then 1 else 0) := by
  rw [List.take_add_one, h, List.countP_append]
  simp [List.countP_cons]
theorem cnt_succ (l : List Nat) (m : Nat) : l.countP (fun c => decide (c < m + 1)) = l.countP (fun c => decide (c < m)) + l.countP (fun c => decide (c = m)) := by
  induction l with
  | nil => rfl
  | cons c l ih =>
    rw [List.countP_cons, List.countP_cons, List.countP_cons, ih]
    by_cases h1 : c < m
    · have h2 : c < m + 1 := by omega
      have h3 : ¬ c = m := by omega
      simp [h1, h2, h3]; omega
    · by_cases h3 : c = m
      · have h2 : c < m + 1 := by omega
        simp [h3]; omega
      · have h2 : ¬ c < m + 1 := by omega
        simp [h1, h2, h3]
theorem inv2_done {l : List Nat} {m i : Nat} {st : EncS} (h : Inv2 l m i st) : st.done ≤ l.length := by
  have h1 := cnt_succ l m
  have h2 : (l.take i).countP (fun c => decide (c = m)) ≤ l.countP (fun c => decide (c = m)) := (List.take_sublist i l).countP_le
  have h3 : l.countP (fun c => decide (c < m + 1)) ≤ l.length := List.countP_le_length
  have := h.2.1
  omega
theorem inn_inv {l : List Nat} {m i c basic : Nat} {st : EncS} (h : Inv2 l m i st) (hc : l[i]? = some c) : Inv2 l m (i + 1) (innE basic m st c) := by
  obtain ⟨h1, h2, h3, h4, h5⟩ := h
  have ht := cnt_take (m := m) hc
  unfold innE
  by_cases hlt : c < m
  · rw [if_pos hlt]
    rw [if_neg (by omega)] at ht
    exact ⟨h1, by rw [ht]; exact h2, by show st.steps + 1 ≤ _; omega, h4, h5⟩
  · rw [if_neg hlt]
    by_cases he : c = m
    · rw [if_pos he]
      rw [if_pos he] at ht
      refine ⟨h1, by rw [ht]; show st.done + 1 = _; omega, Nat.zero_le _, beh_bd _ _ _, ?_⟩
      show (st.b ++ addF 20 1 st.steps (st.bias : Int)).length ≤ l.length + 1 + 20 * (st.done + 1)
      have := addF_len 20 1 st.steps (st.bias : Int)
      rw [List.length_append]
      omega
    · rw [if_neg he]
      rw [if_neg he] at ht
      exact ⟨h1, by rw [ht]; exact h2, by omega, h4, h5⟩
theorem fold_take {l : List Nat} {i c : Nat} {f : EncS → Nat → EncS} {st : EncS} (h : l[i]? = some c) : (l.take (i + 1)).foldl f st = f ((l.take i).foldl f st) c := by
  rw [List.take_add_one, h, List.foldl_append]; rfl
theorem least_have {l : List Nat} {st : EncS} (hb : ∀ c ∈ l, c < 1114112) (hd : st.done = l.countP (fun c => decide (c < st.n))) (hlt : st.done < l.length) : leastF l st.n ∈ l ∧ st.n ≤ leastF l st.n ∧ ∀ c ∈ l, st.n ≤ c → leastF l st.n ≤ c := by
  rcases least_in l st.n hb with ⟨_, h⟩ | h
  · exfalso
    have : l.countP (fun c => decide (c < st.n)) = l.length := List.countP_eq_length.2 fun c hc => by simp [h c hc]
    omega
  · exact h
theorem pre_inv {l : List Nat} {st : EncS} (hb : ∀ c ∈ l, c < 1114112) (h : Inv1 l st) (hlt : st.done < l.length) : Inv2 l (leastF l st.n) 0 (preE l st) := by
  obtain ⟨h1, h2, h3, h4, h5, h6⟩ := h
  obtain ⟨m1, m2, m3⟩ := least_have hb h3 hlt
  have hcnt : l.countP (fun c => decide (c < leastF l st.n)) = l.countP (fun c => decide (c < st.n)) := List.countP_congr fun c hc => by
    simp only [decide_eq_true_eq]
    constructor
    · intro hh
      rcases Nat.lt_or_ge c st.n with h' | h'
      · exact h'
      · have := m3 c hc h'; omega
    · intro hh; omega
  refine ⟨rfl, by rw [List.take_zero, hcnt]; show st.done = _; simpa using h3, ?_, h5, h6⟩
  show st.steps + (leastF l st.n - st.n) * (st.done + 1) ≤ leastF l st.n * (l.length + 1) + 0
  have e1 : (leastF l st.n - st.n) * (st.done + 1) ≤ (leastF l st.n - st.n) * (l.length + 1) := Nat.mul_le_mul_left _ (by omega)
  have e2 : st.n * (l.length + 1) + (leastF l st.n - st.n) * (l.length + 1) = leastF l st.n * (l.length + 1) := by
    rw [← Nat.add_mul, Nat.add_sub_cancel' m2]
  omega
theorem out_inv {l : List Nat} {basic : Nat} {st : EncS} (hb : ∀ c ∈ l, c < 1114112) (h : Inv1 l st) (hlt : st.done < l.length) : Inv1 l (outE basic l st) ∧ st.done + 1 ≤ (outE basic l st).done := by
  obtain ⟨m1, m2, m3⟩ := least_have hb h.2.2.1 hlt
  have hpre := pre_inv hb h hlt
  have key : ∀ i, i ≤ l.length → Inv2 l (leastF l st.n) i ((l.take i).foldl (innE basic (leastF l st.n)) (preE l st)) := by
    intro i
    induction i with
    | zero => intro _; exact hpre
    | succ i ih =>
      intro hi
      obtain ⟨c, hc⟩ : ∃ c, l[i]? = some c := ⟨_, List.getElem?_eq_getElem (by omega)⟩
      rw [fold_take hc]
      exact inn_inv (ih (by omega)) hc
  have hk := key l.length (Nat.le_refl _)
  rw [List.take_length] at hk
  obtain ⟨k1, k2, k3, k4, k5⟩ := hk
  rw [List.take_length] at k2
  have hm := hb _ m1
  have hcs := cnt_succ l (leastF l st.n)
  have hpos : 1 ≤ l.countP (fun c => decide (c = leastF l st.n)) := List.countP_pos_iff.2 ⟨_, m1, by simp⟩
  have hmono : l.countP (fun c => decide (c < st.n)) ≤ l.countP (fun c => decide (c < leastF l st.n)) := List.countP_mono_left fun c _ hh => by simp at hh ⊢; omega
  refine ⟨⟨by show 128 ≤ leastF l st.n + 1; have := h.1; omega, by show leastF l st.n + 1 ≤ _; omega, ?_, ?_, k4, k5⟩, ?_⟩
  · show (l.foldl (innE basic (leastF l st.n)) (preE l st)).done = l.countP (fun c => decide (c < leastF l st.n + 1))
    rw [hcs]; exact k2
  · show (l.foldl (innE basic (leastF l st.n)) (preE l st)).steps + 1 ≤ (leastF l st.n + 1) * (l.length + 1)
    rw [Nat.add_mul, Nat.one_mul]
    omega
  · show st.done + 1 ≤ (l.foldl (innE basic (leastF l st.n)) (preE l st)).done
    have := h.2.2.1
    omega
theorem basB_len (l : List Nat) : (basB l).length = l.countP (fun c => decide (c < 128)) := by unfold basB; rw [List.length_map, List.countP_eq_length_filter]
theorem start_inv (l : List Nat) : Inv1 l (startE l) := by
  have h := basB_len l
  have h2 : l.countP (fun c => decide (c < 128)) ≤ l.length := List.countP_le_length
  refine ⟨Nat.le_refl _, by show 128 ≤ 1114112; decide, h, Nat.zero_le _, by show 72 ≤ 1000; decide, ?_⟩
  show (basB l ++ (if (basB l).length = 0 then [] else [45])).length ≤ l.length + 1 + 20 * (basB l).length
  rw [List.length_append]
  split <;> simp <;> omega
theorem basB_take {l : List Nat} {i c : Nat} (h : l[i]? = some c) : basB (l.take (i + 1)) = basB (l.take i) ++ (if c < 128 then [UInt8.ofNat c] else []) := by
  unfold basB
  rw [List.take_add_one, h, List.filter_append, List.map_append]
  congr 1
  by_cases hc : c < 128 <;> simp [hc]
end Go.Proofs.YtahpiaaffeiadaaGreat
