/- The names of hosts as people write them: idna.Host. -/
import Derived.Test.YtahpiaaffeiadaaGreatEla
import Derived.Test.YtahpiaaffeiadaaGreatEsh
namespace Go.Proofs.YtahpiaaffeiadaaGreat
open Go Go.RowKit
theorem join_txt : ∀ n : List (List UInt8), Lib.join n [46] = txtN n false
  | [] => rfl
  | [l] => by rw [Lib.join_one]; simp [txtN]
  | l :: m :: r => by
    have h := join_txt (m :: r)
    rw [Lib.join_cons] at h ⊢
    rw [txtN, ← h]
    simp [Lib.joinTail]
theorem sjoin_any (xs : List (List UInt8)) (b c : Nat) (w : World) (hr : Row w ⟨b, 0, none⟩ (strV xs)) (hb : b < w.heap.size) (hc : xs.length ≤ c) (hz : szN xs ≤ 1000000) : Ret Tryz.prog 65 #[.slice (some ⟨b, 0, none⟩) xs.length c, .string ⟨#[46]⟩] w fun v w' => v = .string ⟨(txtN xs false).toArray⟩ ∧ Ext w w' := by
  have hl := szN_len xs
  have ht := txt_len xs false
  have e0 : (xs.map fun l : List UInt8 => ByteArray.mk l.toArray).map (fun b : ByteArray => b.data.toList) = xs := by
    rw [List.map_map]
    conv => rhs; rw [← List.map_id xs]
    congr 1
  have c0 := Sh.strings_Join b 0 c (xs.map fun l => ⟨l.toArray⟩) ⟨#[46]⟩ w (fun j x hx => by
    rw [List.getElem?_map] at hx
    cases hj : xs[j]? with
    | none => rw [hj] at hx; cases hx
    | some l =>
      rw [hj] at hx
      cases hx
      have := hr j _ (strV_at hj)
      rw [addr_lit] at this
      rw [Nat.zero_add]; exact this) hb (by rw [List.length_map]; omega) (by rw [List.length_map]; exact hc) (by rw [e0]; show (Lib.join xs [46]).length ≤ _; rw [join_txt]; omega)
  rw [e0, List.length_map] at c0
  refine c0.mono fun e w' ⟨he, hw⟩ => ⟨_, he, ?_, hw⟩
  show Value.string ⟨(Lib.join xs [46]).toArray⟩ = _
  rw [join_txt]
theorem sjoin_none (a : Option Addr) (c : Nat) (w : World) : Ret Tryz.prog 65 #[.slice a 0 c, .string ⟨#[46]⟩] w fun v w' => v = .string ⟨#[]⟩ ∧ Ext w w' :=
  (Sh.strings_Join_none a c ⟨#[46]⟩ w).mono fun e w' ⟨he, hw⟩ => ⟨_, he, rfl, by rw [hw]; exact Ext.refl w⟩
theorem ajoin_any (xs : List (List UInt8)) (b c : Nat) (w : World) (hr : Row w ⟨b, 0, none⟩ (strV xs)) (hb : b < w.heap.size) (hc : xs.length ≤ c) (hz : szN xs ≤ 1000000) : Ret Tryz.prog 40 #[.string ⟨#[46]⟩, .slice (some ⟨b, 0, none⟩) xs.length c] w fun v w' => v = .string ⟨(txtN xs false).toArray⟩ ∧ Ext w w' := by
  have hE0 := Ext.refl w
  refine Ret.body Tryz.func40 rfl Tryz.ntmps40 rfl (Cd.seq (Cd.region (Seg.step rfl rfl (Yd.assign rfl) (Seg.nil (At.then_ (Cd.seq (Cd.region ?_)))))))
  refine Seg.step rfl rfl (Yd.move rfl) (Seg.step rfl rfl (Yd.move rfl) ?_)
  (refine Seg.call rfl rfl (own_of rfl) rfl (sjoin_any xs b c _ hr hb hc hz) ?_; rintro _ w10 ⟨rfl, hE10⟩)
  replace hr := hr.ext hE10
  replace hE0 := Ext.trans hE0 hE10
  refine Seg.step rfl rfl (Yd.assign rfl) (Seg.nil (At.then_ (Cd.ret ?_)))
  exact At.ret Tryz.results40 (.tmp rfl .nil) ⟨rfl, hE0⟩
def isDot (c : Int) : Prop := c = 46 ∨ c = 12290 ∨ c = 65294 ∨ c = 65377
instance (c : Int) : Decidable (isDot c) := by unfold isDot; infer_instance
theorem idot_any (c : Int) (w : World) : Ret Tryz.prog 59 #[.int .i32 c] w fun v w' => v = .bool (decide (isDot c)) ∧ Ext w w' := by
  have hE0 := Ext.refl w
  refine Ret.body Tryz.func59 rfl Tryz.ntmps59 rfl ?_
  by_cases h1 : c = 46
  · refine Cd.seq (Cd.region (Seg.step rfl rfl (Yd.assign rfl) (Seg.nil (At.then_ (Cd.seq (Cd.region (Seg.step rfl rfl (Yd.move rfl) ?_)))))))
    refine Seg.step rfl rfl (Yd.eql rfl rfl) (Seg.step rfl rfl (Yd.move rfl) ?_)
    refine Seg.gsplitp rfl rfl (fun h12 => ?_) (fun h12 => ?_)
    · refine Seg.skip rfl rfl (Seg.skip rfl rfl (Seg.step rfl rfl (Yd.pickT rfl rfl) (Seg.step rfl rfl (Yd.move rfl) (Seg.skip rfl rfl (Seg.skip rfl rfl (Seg.step rfl rfl (Yd.pickT rfl rfl) (Seg.step rfl rfl (Yd.move rfl) ?_)))))))
      refine Seg.skip rfl rfl (Seg.skip rfl rfl (Seg.step rfl rfl (Yd.pickT rfl rfl) (Seg.step rfl rfl (Yd.assign rfl) (Seg.nil (At.then_ (Cd.ret ?_))))))
      exact At.ret Tryz.results59 (.tmp rfl .nil) ⟨bT (.inl h1), hE0⟩
    · exfalso; omega
  by_cases h2 : c = 12290
  · refine Cd.seq (Cd.region (Seg.step rfl rfl (Yd.assign rfl) (Seg.nil (At.then_ (Cd.seq (Cd.region (Seg.step rfl rfl (Yd.move rfl) ?_)))))))
    refine Seg.step rfl rfl (Yd.eql rfl rfl) (Seg.step rfl rfl (Yd.move rfl) ?_)
    refine Seg.gsplitp rfl rfl (fun h13 => ?_) (fun h13 => ?_)
    · exfalso; omega
    · refine Seg.step rfl rfl (Yd.move rfl) (Seg.step rfl rfl (Yd.eql rfl rfl) (Seg.step rfl rfl (Yd.pickF rfl rfl) (Seg.step rfl rfl (Yd.move rfl) ?_)))
      refine Seg.gsplitp rfl rfl (fun h19 => ?_) (fun h19 => ?_)
      · refine Seg.skip rfl rfl (Seg.skip rfl rfl (Seg.step rfl rfl (Yd.pickT rfl rfl) (Seg.step rfl rfl (Yd.move rfl) (Seg.skip rfl rfl (Seg.skip rfl rfl (Seg.step rfl rfl (Yd.pickT rfl rfl) (Seg.step rfl rfl (Yd.assign rfl) ?_)))))))
        refine Seg.nil (At.then_ (Cd.ret ?_))
        exact At.ret Tryz.results59 (.tmp rfl .nil) ⟨bT (.inr (.inl h2)), hE0⟩
      · exfalso; omega
  by_cases h3 : c = 65294
  · refine Cd.seq (Cd.region (Seg.step rfl rfl (Yd.assign rfl) (Seg.nil (At.then_ (Cd.seq (Cd.region (Seg.step rfl rfl (Yd.move rfl) ?_)))))))
    refine Seg.step rfl rfl (Yd.eql rfl rfl) (Seg.step rfl rfl (Yd.move rfl) ?_)
    refine Seg.gsplitp rfl rfl (fun h14 => ?_) (fun h14 => ?_)
    · exfalso; omega
    · refine Seg.step rfl rfl (Yd.move rfl) (Seg.step rfl rfl (Yd.eql rfl rfl) (Seg.step rfl rfl (Yd.pickF rfl rfl) (Seg.step rfl rfl (Yd.move rfl) ?_)))
      refine Seg.gsplitp rfl rfl (fun h20 => ?_) (fun h20 => ?_)
      · exfalso; omega
      · refine Seg.step rfl rfl (Yd.move rfl) (Seg.step rfl rfl (Yd.eql rfl rfl) (Seg.step rfl rfl (Yd.pickF rfl rfl) (Seg.step rfl rfl (Yd.move rfl) ?_)))
        refine Seg.gsplitp rfl rfl (fun h26 => ?_) (fun h26 => ?_)
        · refine Seg.skip rfl rfl (Seg.skip rfl rfl (Seg.step rfl rfl (Yd.pickT rfl rfl) (Seg.step rfl rfl (Yd.assign rfl) (Seg.nil (At.then_ (Cd.ret ?_))))))
          exact At.ret Tryz.results59 (.tmp rfl .nil) ⟨bT (.inr (.inr (.inl h3))), hE0⟩
        · exfalso; omega
  · have hm : Value.bool (decide (c = 65377)) = .bool (decide (isDot c)) := by
      congr 1
      rw [decide_eq_decide]
      unfold isDot
      constructor
      · intro h; exact .inr (.inr (.inr h))
      · rintro (h | h | h | h)
        · exact absurd h h1
        · exact absurd h h2
        · exact absurd h h3
        · exact h
    refine Cd.seq (Cd.region (Seg.step rfl rfl (Yd.assign rfl) (Seg.nil (At.then_ (Cd.seq (Cd.region (Seg.step rfl rfl (Yd.move rfl) ?_)))))))
    refine Seg.step rfl rfl (Yd.eql rfl rfl) (Seg.step rfl rfl (Yd.move rfl) ?_)
    refine Seg.gsplitp rfl rfl (fun h14 => ?_) (fun h14 => ?_)
    · exfalso; omega
    · refine Seg.step rfl rfl (Yd.move rfl) (Seg.step rfl rfl (Yd.eql rfl rfl) (Seg.step rfl rfl (Yd.pickF rfl rfl) (Seg.step rfl rfl (Yd.move rfl) ?_)))
      refine Seg.gsplitp rfl rfl (fun h20 => ?_) (fun h20 => ?_)
      · exfalso; omega
      · refine Seg.step rfl rfl (Yd.move rfl) (Seg.step rfl rfl (Yd.eql rfl rfl) (Seg.step rfl rfl (Yd.pickF rfl rfl) (Seg.step rfl rfl (Yd.move rfl) ?_)))
        refine Seg.gsplitp rfl rfl (fun h26 => ?_) (fun h26 => ?_)
        · exfalso; omega
        · refine Seg.step rfl rfl (Yd.move rfl) (Seg.step rfl rfl (Yd.eql rfl rfl) (Seg.step rfl rfl (Yd.pickF rfl rfl) (Seg.step rfl rfl (Yd.assign rfl) (Seg.nil (At.then_ (Cd.ret ?_))))))
          exact At.ret Tryz.results59 (.tmp rfl .nil) ⟨hm, hE0⟩
/-- What stands between the dots. -/
def splF : Nat → List UInt8 → List UInt8 → List (List UInt8)
  | 0, cur, _ => [cur]
  | f + 1, cur, rest => if rest = [] then [cur] else match nextB rest with
    | some (c, n) => if isDot (c : Int) then cur :: splF f [] (rest.drop n) else splF f (cur ++ rest.take n) (rest.drop n)
    | none => [cur]
def splB (s : List UInt8) : List (List UInt8) := splF s.length [] s
structure SpS where
  f : Nat
  bg : Nat
  at' : Nat
  acc : List (List UInt8)
  v : Value
theorem isplit_any (s : List UInt8) (ps : List Nat) (w : World) (hl : s.length ≤ 1000000) (hR : runesB s = some ps) : Ret Tryz.prog 37 #[.string ⟨s.toArray⟩] w fun v w' => OwnS w' w.heap.size v (splB s) ∧ Ext w w' := by
  have hE0 := Ext.refl w
  refine Ret.body Tryz.func37 rfl Tryz.ntmps37 rfl (Cd.seq (Cd.region (Seg.step rfl rfl (Yd.assign rfl) (Seg.nil (At.then_ (Cd.seq (Cd.region ?_)))))))
  refine Seg.step rfl rfl (Yd.assign rfl) (Seg.nil (At.then_ (Cd.seq (Cd.region (Seg.step rfl rfl (Yd.assign rfl) (Seg.step rfl rfl (Yd.assign rfl) (Seg.nil ?_)))))))
  refine At.then_ (Cd.seq (Cd.block ?_))
  refine Cd.loop (σ := SpS) (fun t => [(0, .string ⟨s.toArray⟩), (3, t.v), (4, .int .i64 (t.bg : Int)), (5, .int .i64 (t.at' : Int))])
    (fun t w' => (t.bg ≤ t.at' ∧ t.at' ≤ s.length ∧ (∃ qs, runesB (s.drop t.at') = some qs) ∧ t.acc ++ splF t.f ((s.take t.at').drop t.bg) (s.drop t.at') = splB s ∧ s.length ≤ t.at' + t.f ∧ t.acc.length ≤ t.at') ∧ OwnS w' w.heap.size t.v t.acc ∧ Ext w w') (fun t => t.f) ⟨s.length, 0, 0, [], .slice none 0 0⟩ (.cons rfl (.cons rfl (.cons rfl (.cons rfl (.nil _)))))
    ⟨⟨Nat.le_refl _, Nat.zero_le _, ⟨ps, hR⟩, rfl, by show s.length ≤ 0 + s.length; omega, Nat.le_refl _⟩, World.ownsRow_nil _ _ _ _, hE0⟩ ?_
  clear hE0
  rintro ⟨f, bg, at', acc, v⟩ w1 ⟨⟨h1, h2, ⟨qs, hq⟩, h3, h4, h5⟩, hO, hE1⟩
  simp only at h1 h2 hq h3 h4 h5 hO ⊢
  have kO : Keep (OwnS w1 w.heap.size v acc) := hO
  have kE1 : Keep (Ext w w1) := hE1
  have hEn := Ext.refl w1
  clear hO
  have hdl : (s.drop at').length = s.length - at' := List.length_drop
  by_cases hlt : at' < s.length
  · obtain ⟨g, rfl⟩ : ∃ g, f = g + 1 := ⟨f - 1, by omega⟩
    have hne : s.drop at' ≠ [] := fun h => by rw [h] at hdl; simp at hdl; omega
    rw [runesB_step hne] at hq
    cases hn : nextB (s.drop at') with
    | none => rw [hn] at hq; cases hq
    | some p =>
      obtain ⟨c, m⟩ := p
      rw [hn] at hq
      simp only at hq
      obtain ⟨m1, m2, m4, hpt⟩ := nextB_pos hn
      have hq' : ∃ qs, runesB (s.drop (at' + m)) = some qs := by
        rw [List.drop_drop] at hq
        cases hr : runesB (s.drop (at' + m)) with
        | none => rw [hr] at hq; cases hq
        | some q => exact ⟨q, rfl⟩
      have hst : splF (g + 1) ((s.take at').drop bg) (s.drop at') = if isDot (c : Int) then (s.take at').drop bg :: splF g [] (s.drop (at' + m)) else splF g ((s.take (at' + m)).drop bg) (s.drop (at' + m)) := by
        conv => lhs; unfold splF
        rw [if_neg hne, hn]
        simp only
        have e : (s.take at').drop bg ++ (s.drop at').take m = (s.take (at' + m)).drop bg := by
          rw [List.take_add, List.drop_append_of_le_length (by rw [List.length_take]; omega)]
        rw [List.drop_drop, e]
      rw [hst] at h3
      have hcall := fun (w' : World) => next_any (s.drop at') w' (by omega)
      rw [hn] at hcall
      by_cases hd : isDot (c : Int)
      · have hdd : decide (isDot (c : Int)) = true := decide_eq_true hd
        rw [if_pos hd] at h3
        have h3' : (acc ++ [(s.take at').drop bg]) ++ splF g ((s.take (at' + m)).drop (at' + m)) (s.drop (at' + m)) = splB s := by
          have e0 : (s.take (at' + m)).drop (at' + m) = [] := List.drop_of_length_le (by rw [List.length_take]; omega)
          rw [← h3, e0]; simp
        refine Cd.seq (Cd.seq (Cd.region (Seg.step rfl rfl (Yd.move rfl) (Seg.step rfl rfl (Yd.move rfl) (Seg.step rfl rfl (Yd.lenStr rfl rfl) (Seg.step rfl rfl (Yd.lss rfl rfl) (Seg.nil ?_)))))))
        refine At.then_ ?_
        refine Cd.condk rfl (fun h15 => ?_) (fun h15 => ?_)
        · refine Cd.skip (At.then_ (Cd.block (Cd.seq (Cd.region (Seg.step rfl rfl (Yd.move rfl) (Seg.step rfl rfl (Yd.move rfl) (Seg.step rfl rfl (Yd.slStrL rfl rfl rfl (NatOf.cast _) (by omega)) ?_)))))))
          (refine Seg.call rfl rfl (own_of rfl) rfl (hcall _) ?_; rintro _ w25 ⟨rfl, hE25⟩)
          replace hE1 := Ext.trans hE1 hE25
          replace hEn := Ext.trans hEn hE25
          refine Seg.step rfl rfl (Yd.move rfl) (Seg.step rfl rfl (Yd.extract rfl rfl) (Seg.step rfl rfl (Yd.extract rfl rfl) (Seg.step rfl rfl (Yd.extract rfl rfl) (Seg.step rfl rfl (Yd.assign rfl) (Seg.step rfl rfl (Yd.assign rfl) (Seg.step rfl rfl (Yd.assign rfl) (Seg.nil ?_)))))))
          refine At.then_ (Cd.seq (Cd.seq (Cd.region (Seg.step rfl rfl (Yd.move rfl) ?_))))
          (refine Seg.call rfl rfl (own_of rfl) rfl (idot_any _ _) ?_; rw [hdd]; rintro _ w39 ⟨rfl, hE39⟩)
          replace hE25 := Ext.trans hE25 hE39
          replace hE1 := Ext.trans hE1 hE39
          replace hEn := Ext.trans hEn hE39
          refine Seg.nil (At.then_ (Cd.condT rfl (Cd.seq (Cd.region (Seg.step rfl rfl (Yd.move rfl) (Seg.step rfl rfl (Yd.move rfl) (Seg.step rfl rfl (Yd.move rfl) ?_)))))))
          refine Seg.step rfl rfl (Yd.move rfl) (Seg.step rfl rfl (Yd.slStr rfl rfl rfl rfl (NatOf.cast _) (NatOf.cast _) (by omega) (by omega)) (Seg.buildSliceV rfl rfl rfl rfl rfl rfl rfl rfl rfl rfl (fun w50 b50 hE50 hB50 hb50 hO50 => ?_)))
          have hlt50_0 := Nat.le_trans hE39.size hb50
          have hlt50_1 := Nat.le_trans hE25.size hb50
          have hlt50_2 := Nat.le_trans hE1.size hb50
          have hlt50_3 := Nat.le_trans hEn.size hb50
          replace hE39 := Ext.trans hE39 hE50
          replace hE25 := Ext.trans hE25 hE50
          replace hE1 := Ext.trans hE1 hE50
          replace hEn := Ext.trans hEn hE50
          (refine Seg.appS (m := [(s.take at').drop bg]) rfl rfl rfl rfl rfl (own_ext kO hEn) (own_sl (by assumption)) (Below.size (Ext.trans kE1 hEn)) (by show _ + 1 ≤ _; omega) (fun v51 w51 hO51 _ hX51 hS51 _ => ?_); have hE3 := hX51 w (Ext.trans kE1 hEn) (Nat.le_refl _))
          refine Seg.step rfl rfl (Yd.assign rfl) (Seg.nil (At.then_ (Cd.region (Seg.step rfl rfl (Yd.move rfl) (Seg.step rfl rfl (Yd.move rfl) (Seg.step rfl rfl (Yd.addI rfl rfl (by omega)) (Seg.step rfl rfl (Yd.assign rfl) ?_)))))))
          refine Seg.nil (At.then_ (Cd.region (Seg.step rfl rfl (Yd.move rfl) (Seg.step rfl rfl (Yd.move rfl) (Seg.step rfl rfl (Yd.addI rfl rfl (by omega)) (Seg.step rfl rfl (Yd.assign rfl) (Seg.nil ?_)))))))
          refine At.blk ?_
          exact At.round (⟨g, at' + m, at' + m, acc ++ [(s.take at').drop bg], _⟩ : SpS) (.cons rfl (.cons rfl (.cons rfl (.cons rfl (.nil _))))) ⟨⟨Nat.le_refl _, by show at' + m ≤ _; omega, hq', h3', by show s.length ≤ at' + m + g; omega, by rw [List.length_append]; show _ + 1 ≤ at' + m; omega⟩, by assumption, hE3⟩ (Nat.lt_succ_self g)
        · exfalso; omega
      · have hdd : decide (isDot (c : Int)) = false := decide_eq_false hd
        rw [if_neg hd] at h3
        refine Cd.seq (Cd.seq (Cd.region (Seg.step rfl rfl (Yd.move rfl) (Seg.step rfl rfl (Yd.move rfl) (Seg.step rfl rfl (Yd.lenStr rfl rfl) (Seg.step rfl rfl (Yd.lss rfl rfl) (Seg.nil ?_)))))))
        refine At.then_ ?_
        refine Cd.condk rfl (fun h15 => ?_) (fun h15 => ?_)
        · refine Cd.skip (At.then_ (Cd.block (Cd.seq (Cd.region (Seg.step rfl rfl (Yd.move rfl) (Seg.step rfl rfl (Yd.move rfl) (Seg.step rfl rfl (Yd.slStrL rfl rfl rfl (NatOf.cast _) (by omega)) ?_)))))))
          (refine Seg.call rfl rfl (own_of rfl) rfl (hcall _) ?_; rintro _ w25 ⟨rfl, hE25⟩)
          replace hE1 := Ext.trans hE1 hE25
          replace hEn := Ext.trans hEn hE25
          refine Seg.step rfl rfl (Yd.move rfl) (Seg.step rfl rfl (Yd.extract rfl rfl) (Seg.step rfl rfl (Yd.extract rfl rfl) (Seg.step rfl rfl (Yd.extract rfl rfl) (Seg.step rfl rfl (Yd.assign rfl) (Seg.step rfl rfl (Yd.assign rfl) (Seg.step rfl rfl (Yd.assign rfl) (Seg.nil ?_)))))))
          refine At.then_ (Cd.seq (Cd.seq (Cd.region (Seg.step rfl rfl (Yd.move rfl) ?_))))
          (refine Seg.call rfl rfl (own_of rfl) rfl (idot_any _ _) ?_; rw [hdd]; rintro _ w39 ⟨rfl, hE39⟩)
          replace hE25 := Ext.trans hE25 hE39
          replace hE1 := Ext.trans hE1 hE39
          replace hEn := Ext.trans hEn hE39
          refine Seg.nil (At.then_ (Cd.condF rfl (Cd.skip (At.then_ (Cd.region (Seg.step rfl rfl (Yd.move rfl) (Seg.step rfl rfl (Yd.move rfl) ?_)))))))
          refine Seg.step rfl rfl (Yd.addI rfl rfl (by omega)) (Seg.step rfl rfl (Yd.assign rfl) (Seg.nil (At.blk ?_)))
          exact At.round (⟨g, bg, at' + m, acc, v⟩ : SpS) (.cons rfl (.cons rfl (.cons rfl (.cons rfl (.nil _))))) ⟨⟨by show bg ≤ at' + m; omega, by show at' + m ≤ _; omega, hq', h3, by show s.length ≤ at' + m + g; omega, by show acc.length ≤ at' + m; omega⟩, own_ext kO hEn, Ext.trans kE1 hEn⟩ (Nat.lt_succ_self g)
        · exfalso; omega
  · obtain rfl : at' = s.length := by omega
    have hfin : splB s = acc ++ [s.drop bg] := by
      rw [← h3, List.drop_length, List.take_length]
      cases f with
      | zero => rfl
      | succ g => unfold splF; rw [if_pos rfl]
    rw [hfin]
    refine Cd.seq (Cd.seq (Cd.region (Seg.step rfl rfl (Yd.move rfl) (Seg.step rfl rfl (Yd.move rfl) (Seg.step rfl rfl (Yd.lenStr rfl rfl) (Seg.step rfl rfl (Yd.lss rfl rfl) (Seg.nil ?_)))))))
    refine At.then_ ?_
    refine Cd.condk rfl (fun h15 => ?_) (fun h15 => ?_)
    · exfalso; omega
    · refine Cd.exit (At.then_exit (At.then_exit (At.blk_same (At.then_ (Cd.seq (Cd.region (Seg.step rfl rfl (Yd.move rfl) ?_)))))))
      refine Seg.step rfl rfl (Yd.move rfl) (Seg.step rfl rfl (Yd.move rfl) (Seg.step rfl rfl (Yd.slStrL rfl rfl rfl (NatOf.cast _) (by omega)) (Seg.buildSliceV rfl rfl rfl rfl rfl rfl rfl rfl rfl rfl (fun w28 b28 hE28 hB28 hb28 hO28 => ?_))))
      have hlt28_0 := Nat.le_trans hE1.size hb28
      have hlt28_1 := Nat.le_trans hEn.size hb28
      replace hE1 := Ext.trans hE1 hE28
      replace hEn := Ext.trans hEn hE28
      (refine Seg.appS (m := [s.drop bg]) rfl rfl rfl rfl rfl (own_ext kO hEn) (own_sl (by assumption)) (Below.size (Ext.trans kE1 hEn)) (by show _ + 1 ≤ _; omega) (fun v29 w29 hO29 _ hX29 hS29 _ => ?_); have hE3 := hX29 w (Ext.trans kE1 hEn) (Nat.le_refl _))
      refine Seg.step rfl rfl (Yd.assign rfl) (Seg.nil (At.then_ (Cd.ret ?_)))
      exact At.ret Tryz.results37 (.tmp rfl .nil) ⟨by assumption, hE3⟩
theorem splF_len : ∀ (f : Nat) (cur rest : List UInt8), 1 ≤ (splF f cur rest).length ∧ (splF f cur rest).length ≤ rest.length + 1 ∧ ∀ t ∈ splF f cur rest, t.length ≤ cur.length + rest.length
  | 0, cur, rest => ⟨Nat.le_refl _, by show 1 ≤ _; omega, fun t ht => by rw [List.mem_singleton.1 ht]; omega⟩
  | f + 1, cur, rest => by
    unfold splF
    split
    · exact ⟨Nat.le_refl _, by show 1 ≤ _; omega, fun t ht => by rw [List.mem_singleton.1 ht]; omega⟩
    · cases hn : nextB rest with
      | none => exact ⟨Nat.le_refl _, by show 1 ≤ _; omega, fun t ht => by rw [List.mem_singleton.1 ht]; omega⟩
      | some p =>
        obtain ⟨c, n⟩ := p
        obtain ⟨m1, m2, m4, hpt⟩ := nextB_pos hn
        have hdl : (rest.drop n).length = rest.length - n := List.length_drop
        simp only
        split
        · obtain ⟨i1, i2, i3⟩ := splF_len f [] (rest.drop n)
          refine ⟨by rw [List.length_cons]; omega, by rw [List.length_cons]; omega, fun t ht => ?_⟩
          rcases List.mem_cons.1 ht with rfl | ht
          · omega
          · have := i3 t ht
            simp only [List.length_nil] at this
            omega
        · obtain ⟨i1, i2, i3⟩ := splF_len f (cur ++ rest.take n) (rest.drop n)
          refine ⟨i1, by omega, fun t ht => ?_⟩
          have := i3 t ht
          rw [List.length_append, List.length_take] at this
          omega
theorem splB_len (s : List UInt8) : 1 ≤ (splB s).length ∧ (splB s).length ≤ s.length + 1 ∧ ∀ t ∈ splB s, t.length ≤ s.length := by
  obtain ⟨h1, h2, h3⟩ := splF_len s.length [] s
  exact ⟨h1, h2, fun t ht => by have := h3 t ht; simp only [List.length_nil] at this; omega⟩
theorem toA_len {t : List UInt8} (h : (toA t).2 = 0) : (toA t).1.length ≤ 63 := by
  unfold toA at h ⊢
  split at h
  · split at h
    · rename_i h1 h2
      rw [if_pos h1, if_pos h2]
      show (lowS t).length ≤ 63
      rw [lowS_length]; exact h2.2.1
    · cases h
  · rename_i h1
    rw [if_neg h1]
    cases hR : runesB (lowS t) with
    | none => rw [hR] at h; cases h
    | some l =>
      rw [hR] at h
      simp only at h ⊢
      split at h
      · rename_i h2
        split at h
        · rename_i h3
          rw [if_pos h2, if_pos h3]; exact h3
        · cases h
      · cases h
/-- The labels of a name, each in letters, digits and hyphens. -/
def asciiN : List (List UInt8) → List (List UInt8) × Int
  | [] => ([], 0)
  | t :: r => if t = [] then ([], 8) else if (toA t).2 ≠ 0 then ([], (toA t).2) else ((toA t).1 :: (asciiN r).1, (asciiN r).2)
theorem asciiN_cons (t : List UInt8) (r : List (List UInt8)) : asciiN (t :: r) = if t = [] then ([], 8) else if (toA t).2 ≠ 0 then ([], (toA t).2) else ((toA t).1 :: (asciiN r).1, (asciiN r).2) := rfl
/-- Without the last one, if that is empty and not alone. -/
def trimN (l : List (List UInt8)) : List (List UInt8) × Bool := if 1 < l.length ∧ l.getD (l.length - 1) [] = [] then (l.take (l.length - 1), true) else (l, false)
/-- A host's name in letters, digits and hyphens, and what is wrong. -/
def hostR (s : List UInt8) : List UInt8 × Int :=
  match runesB s with
  | none => ([], 5)
  | some _ => if (asciiN (trimN (splB s)).1).2 ≠ 0 then ([], (asciiN (trimN (splB s)).1).2) else if 255 < szN (asciiN (trimN (splB s)).1).1 then ([], 3) else (txtN (asciiN (trimN (splB s)).1).1 (trimN (splB s)).2, 0)
theorem txt_end : ∀ (n : List (List UInt8)) (d : Bool), n ≠ [] → txtN n false ++ (if d then [46] else []) = txtN n d
  | [], _, h => absurd rfl h
  | [l], d, _ => by cases d <;> simp [txtN]
  | l :: m :: r, d, _ => by
    have h := txt_end (m :: r) d (by simp)
    rw [txtN, txtN, ← h]
    simp
theorem szN_bd {n : List (List UInt8)} (h : ∀ a ∈ n, a.length ≤ 63) : szN n ≤ 1 + 64 * n.length := by
  unfold szN
  induction n with
  | nil => simp
  | cons l n ih =>
    have h1 := h l (by simp)
    have h2 := ih fun a ha => h a (by simp [ha])
    simp at h2 ⊢
    omega
structure HsS where
  i : Nat
  N : List (List UInt8)
  v : Value
theorem ihost_gen (s : List UInt8) (w : World) (hl : s.length ≤ 900000) (n3 : ∀ t ∈ splB s, t.length ≤ 900) : Ret Tryz.prog 12 #[.string ⟨s.toArray⟩] w fun v w' => v = resA (hostR s) ∧ Ext w w' := by
  have hE0 := Ext.refl w
  refine Ret.body Tryz.func12 rfl Tryz.ntmps12 rfl ?_
  have hrun := fun (w' : World) => runes_any s w' (by omega)
  cases hR : runesB s with
  | none =>
    have hr : hostR s = ([], 5) := by unfold hostR; rw [hR]
    rw [hr]
    rw [hR] at hrun
    refine Cd.seq (Cd.region (Seg.step rfl rfl (Yd.assign rfl) (Seg.step rfl rfl (Yd.assign rfl) (Seg.nil (At.then_ (Cd.seq (Cd.seq ?_)))))))
    refine Cd.region (Seg.step rfl rfl (Yd.move rfl) ?_)
    (refine Seg.call rfl rfl (own_of rfl) rfl (hrun _) ?_; rintro _ w11 ⟨rfl, hE11⟩)
    replace hE0 := Ext.trans hE0 hE11
    refine Seg.step rfl rfl (Yd.move rfl) (Seg.step rfl rfl (Yd.extract rfl rfl) (Seg.step rfl rfl (Yd.extract rfl rfl) (Seg.step rfl rfl (Yd.assign rfl) (Seg.step rfl rfl (Yd.assign rfl) (Seg.nil (At.then_ (Cd.seq ?_)))))))
    refine Cd.region (Seg.step rfl rfl (Yd.move rfl) (Seg.step rfl rfl (Yd.neq rfl rfl) (Seg.nil (At.then_ (Cd.condT rfl (Cd.seq (Cd.region ?_)))))))
    refine Seg.step rfl rfl (Yd.assign rfl) (Seg.step rfl rfl (Yd.assign rfl) (Seg.nil (At.then_ (Cd.ret (At.then_ret ?_)))))
    exact At.ret Tryz.results12 (.tmp rfl (.tmp rfl .nil)) ⟨rfl, hE0⟩
  | some ps =>
    rw [hR] at hrun
    obtain ⟨n1, n2, _⟩ := splB_len s
    refine Cd.seq (Cd.region (Seg.step rfl rfl (Yd.assign rfl) (Seg.step rfl rfl (Yd.assign rfl) (Seg.nil (At.then_ (Cd.seq (Cd.seq ?_)))))))
    refine Cd.region (Seg.step rfl rfl (Yd.move rfl) ?_)
    (refine Seg.call rfl rfl (own_of rfl) rfl (hrun _) ?_; rintro _ w11 ⟨⟨u, rfl, hU⟩, hE11⟩)
    replace hE0 := Ext.trans hE0 hE11
    refine Seg.step rfl rfl (Yd.move rfl) (Seg.step rfl rfl (Yd.extract rfl rfl) (Seg.step rfl rfl (Yd.extract rfl rfl) (Seg.step rfl rfl (Yd.assign rfl) (Seg.step rfl rfl (Yd.assign rfl) (Seg.nil (At.then_ (Cd.seq ?_)))))))
    refine Cd.region (Seg.step rfl rfl (Yd.move rfl) (Seg.step rfl rfl (Yd.neq rfl rfl) (Seg.nil (At.then_ (Cd.condF rfl (Cd.skip (At.then_ ?_)))))))
    refine Cd.seq (Cd.region (Seg.step rfl rfl (Yd.move rfl) ?_))
    (refine Seg.call rfl rfl (own_of rfl) rfl (isplit_any s ps _ (by omega) hR) ?_; rintro v6 w31 ⟨hO6, hE31⟩)
    replace hE11 := Ext.trans hE11 hE31
    replace hE0 := Ext.trans hE0 hE31
    refine Seg.step rfl rfl (Yd.assign rfl) (Seg.nil (At.then_ (Cd.seq ?_)))
    have hOc := own_cap hO6
    obtain ⟨g, c6, zs, rfl, hg6, _⟩ := own_bx hO6 n1
    have hcc := hOc _ _ _ rfl
    have kN6 : Keep (NameAt w31 (.slice (some ⟨g, 0, none⟩) (splB s).length c6) (splB s)) := own_sl hO6
    have kE6 : Keep (Ext w w31) := by assumption
    clear hO6 hOc hU hrun
    have hEn := Ext.refl w31
    obtain ⟨L, d, hLd⟩ : ∃ L d, trimN (splB s) = (L, d) := ⟨_, _, rfl⟩
    refine Cd.region (Seg.step rfl rfl (Yd.assign rfl) (Seg.nil (At.then_ ?_)))
    refine Cd.cut (σ := Nat × Value) (fun t => [(6, t.2), (7, .string ⟨(if d then [46] else [] : List UInt8).toArray⟩)]) (fun t w' => (L.length ≤ t.1 ∧ t.2 = .slice (some ⟨g, 0, none⟩) L.length t.1 ∧ NameAt w' t.2 L) ∧ Ext w w') ?_ (fun t3 w3 hh => ?_)
    · by_cases h1 : 1 < (splB s).length
      · obtain ⟨la, hla⟩ : ∃ la, (splB s)[(splB s).length - 1]? = some la := ⟨_, List.getElem?_eq_getElem (by omega)⟩
        have hlg : (splB s).getD ((splB s).length - 1) [] = la := by simp [List.getD, hla]
        have hrow : ∀ {w' : World}, Ext w31 w' → Row w' ⟨g, 0, none⟩ (strV (splB s)) := fun hE => by
          obtain ⟨ao', c', e, _, hr, _⟩ := kN6
          cases e
          exact (hr _ rfl).ext hE
        by_cases h2 : la = []
        · have ht : trimN (splB s) = ((splB s).take ((splB s).length - 1), true) := by unfold trimN; rw [if_pos ⟨h1, by rw [hlg]; exact h2⟩]
          rw [ht] at hLd
          cases hLd
          have htl : ((splB s).take ((splB s).length - 1)).length = (splB s).length - 1 := by rw [List.length_take]; omega
          have hsl : sliced (some ⟨g, 0, none⟩) 0 ((splB s).length - 1) c6 1 = .slice (some ⟨g, 0, none⟩) ((splB s).take ((splB s).length - 1)).length c6 := by
            unfold sliced
            rw [if_neg (by omega), htl]
            simp [Addr.add0]
          have hNt : ∀ {w' : World}, Ext w31 w' → NameAt w' (sliced (some ⟨g, 0, none⟩) 0 ((splB s).length - 1) c6 1) ((splB s).take ((splB s).length - 1)) := fun hE => by
            rw [hsl]
            refine ⟨_, _, rfl, by rw [strV_length, Nat.mul_one], fun a ha => ?_, fun h => by cases h⟩
            cases ha
            have := (hrow hE).take ((splB s).length - 1)
            have e : strV ((splB s).take ((splB s).length - 1)) = (strV (splB s)).take ((splB s).length - 1) := by simp [strV, List.map_take]
            rw [e]; exact this
          refine Cd.seq (Cd.region (Seg.step rfl rfl (Yd.move rfl) (Seg.step rfl rfl (Yd.lenS rfl rfl) (Seg.step rfl rfl (Yd.subI rfl rfl (by omega)) (Seg.step rfl rfl (Yd.assign rfl) (Seg.nil (At.then_ ?_)))))))
          refine Cd.seq (Cd.region (Seg.step rfl rfl (Yd.move rfl) (Seg.step rfl rfl (Yd.gtr rfl rfl) (Seg.step rfl rfl (Yd.move rfl) ?_))))
          refine Seg.gsplitp rfl rfl (fun h45 => ?_) (fun h45 => ?_)
          · refine Seg.step rfl rfl (Yd.move rfl) (Seg.step rfl rfl (Yd.move rfl) (Seg.step rfl rfl (Yd.indexAddr1 rfl rfl rfl (NatOf.sub (NatOf.cast _) (NatOf.cast 1) (by omega)) (by omega)) (Seg.step rfl rfl (Yd.load1 rfl rfl ((hrow hEn) _ _ (strV_at hla))) (Seg.step rfl rfl (Yd.eqlS rfl rfl) (Seg.step rfl rfl (Yd.pickT rfl rfl) (Seg.nil (At.then_ ?_)))))))
            refine Cd.condk rfl (fun h55 => ?_) (fun h55 => ?_)
            · refine Cd.seq (Cd.region (Seg.step rfl rfl (Yd.move rfl) (Seg.step rfl rfl (Yd.move rfl) (Seg.step rfl rfl (Yd.slSlH rfl rfl rfl (NatOf.sub (NatOf.cast _) (NatOf.cast 1) (by omega)) (by omega)) (Seg.step rfl rfl (Yd.assign rfl) (Seg.nil (At.then_ ?_)))))))
              refine Cd.region (Seg.step rfl rfl (Yd.assign rfl) (Seg.nil ?_))
              exact At.cut (c6, _) (.cons rfl (.cons rfl (.nil _))) ⟨⟨by show _ ≤ c6; rw [htl]; omega, hsl, hNt hEn⟩, Ext.trans kE6 hEn⟩
            · contradiction
          · exfalso; omega
        · have ht : trimN (splB s) = (splB s, false) := by unfold trimN; rw [if_neg (fun h => h2 (by rw [← hlg]; exact h.2))]
          rw [ht] at hLd
          cases hLd
          refine Cd.seq (Cd.region (Seg.step rfl rfl (Yd.move rfl) (Seg.step rfl rfl (Yd.lenS rfl rfl) (Seg.step rfl rfl (Yd.subI rfl rfl (by omega)) (Seg.step rfl rfl (Yd.assign rfl) (Seg.nil (At.then_ ?_)))))))
          refine Cd.seq (Cd.region (Seg.step rfl rfl (Yd.move rfl) (Seg.step rfl rfl (Yd.gtr rfl rfl) (Seg.step rfl rfl (Yd.move rfl) ?_))))
          refine Seg.gsplitp rfl rfl (fun h45 => ?_) (fun h45 => ?_)
          · refine Seg.step rfl rfl (Yd.move rfl) (Seg.step rfl rfl (Yd.move rfl) (Seg.step rfl rfl (Yd.indexAddr1 rfl rfl rfl (NatOf.sub (NatOf.cast _) (NatOf.cast 1) (by omega)) (by omega)) (Seg.step rfl rfl (Yd.load1 rfl rfl ((hrow hEn) _ _ (strV_at hla))) (Seg.step rfl rfl (Yd.eqlS rfl rfl) (Seg.step rfl rfl (Yd.pickT rfl rfl) (Seg.nil (At.then_ ?_)))))))
            refine Cd.condk rfl (fun h55 => ?_) (fun h55 => ?_)
            · contradiction
            · refine Cd.skip ?_
              exact At.cut (c6, _) (.cons rfl (.cons rfl (.nil _))) ⟨⟨hcc, rfl, Sl.ext kN6 hEn⟩, Ext.trans kE6 hEn⟩
          · exfalso; omega
      · have ht : trimN (splB s) = (splB s, false) := by unfold trimN; rw [if_neg (fun h => h1 h.1)]
        rw [ht] at hLd
        cases hLd
        refine Cd.seq (Cd.region (Seg.step rfl rfl (Yd.move rfl) (Seg.step rfl rfl (Yd.lenS rfl rfl) (Seg.step rfl rfl (Yd.subI rfl rfl (by omega)) (Seg.step rfl rfl (Yd.assign rfl) (Seg.nil (At.then_ ?_)))))))
        refine Cd.seq (Cd.region (Seg.step rfl rfl (Yd.move rfl) (Seg.step rfl rfl (Yd.gtr rfl rfl) (Seg.step rfl rfl (Yd.move rfl) ?_))))
        refine Seg.gsplitp rfl rfl (fun h45 => ?_) (fun h45 => ?_)
        · exfalso; omega
        · refine Seg.skip rfl rfl (Seg.skip rfl rfl (Seg.skip rfl rfl (Seg.skip rfl rfl (Seg.skip rfl rfl (Seg.step rfl rfl (Yd.pickF rfl rfl) (Seg.nil (At.then_ ?_)))))))
          refine Cd.condF rfl (Cd.skip ?_)
          exact At.cut (c6, _) (.cons rfl (.cons rfl (.nil _))) ⟨⟨hcc, rfl, Sl.ext kN6 hEn⟩, Ext.trans kE6 hEn⟩
    · obtain ⟨c3, v3⟩ := t3
      obtain ⟨⟨hc3, hv3, hN3⟩, hE3⟩ := hh
      simp only at hc3 hv3 hN3 ⊢
      subst hv3
      have hL1 : 1 ≤ L.length := by
        have h : L = (trimN (splB s)).1 := by rw [hLd]
        rw [h]
        unfold trimN
        split
        · rw [List.length_take]; omega
        · exact n1
      have hLl : L.length ≤ s.length + 1 ∧ ∀ t ∈ L, t.length ≤ 900 := by
        have h : L = (trimN (splB s)).1 := by rw [hLd]
        rw [h]
        unfold trimN
        split
        · exact ⟨by rw [List.length_take]; omega, fun t ht => n3 t (List.mem_of_mem_take ht)⟩
        · exact ⟨n2, n3⟩
      obtain ⟨l1, l2⟩ := hLl
      have hres : hostR s = if (asciiN L).2 ≠ 0 then ([], (asciiN L).2) else if 255 < szN (asciiN L).1 then ([], 3) else (txtN (asciiN L).1 d, 0) := by
        unfold hostR
        rw [hR, hLd]
      rw [hres]
      have hEw3 : Keep (Ext w w3) := hE3
      have kN3 : Keep (NameAt w3 (.slice (some ⟨g, 0, none⟩) L.length c3) L) := hN3
      have hE0 := hE3
      have hE33 := Ext.refl w3
      clear kN6 kE6 hEn hE3 hN3
      refine Cd.seq (Cd.region (Seg.step rfl rfl (Yd.move rfl) (Seg.step rfl rfl (Yd.lenS rfl rfl) ?_)))
      (refine Seg.makeOwn rfl rfl rfl rfl rfl rfl rfl rfl ⟨by omega, by decide⟩ (fun w38 b38 hO38 hE38 _ => ?_))
      refine Seg.step rfl rfl (Yd.assign rfl) (Seg.nil (At.then_ (Cd.seq (Cd.seq (Cd.region (Seg.step rfl rfl (Yd.move rfl) (Seg.step rfl rfl (Yd.lenS rfl rfl) ?_)))))))
      refine Seg.step rfl rfl (Yd.move rfl) (Seg.nil (At.then_ (Cd.block ?_)))
      refine Cd.loop (σ := HsS) (fun t => [(7, .string ⟨(if d then [46] else [] : List UInt8).toArray⟩), (9, t.v), (41, .slice (some ⟨g, 0, none⟩) L.length c3), (42, .int .i64 (L.length : Int)), (43, .int .i64 (t.i : Int))])
        (fun t w' => (t.i ≤ L.length ∧ (asciiN L).2 = (asciiN (L.drop t.i)).2 ∧ (asciiN L).1 = t.N ++ (asciiN (L.drop t.i)).1 ∧ t.N.length = t.i ∧ ∀ a ∈ t.N, a.length ≤ 63) ∧ OwnS w' w3.heap.size t.v t.N ∧ Ext w3 w' ∧ Ext w w') (fun t => L.length - t.i) ⟨0, [], .slice (some ⟨b38, 0, none⟩) 0 L.length⟩ (.cons rfl (.cons rfl (.cons rfl (.cons rfl (.cons rfl (.nil _))))))
        ⟨⟨Nat.zero_le _, rfl, rfl, rfl, fun a ha => by cases ha⟩, hO38, hE38, Ext.trans hEw3 hE38⟩ ?_
      clear hE0 hO38 hE33
      rintro ⟨i, N, v⟩ w4 ⟨⟨hi, ha2, ha1, hNl, hN63⟩, hO, hE3, hE4⟩
      simp only at hi ha2 ha1 hNl hN63 hO ⊢
      have kO : Keep (OwnS w4 w3.heap.size v N) := hO
      have kE4 : Keep (Ext w w4) := hE4
      have kE3 : Keep (Ext w3 w4) := hE3
      have hEn := Ext.refl w4
      clear hO hE3
      have hrow : ∀ {w' : World}, Ext w4 w' → Row w' ⟨g, 0, none⟩ (strV L) := fun hE => by
        obtain ⟨ao', c', e, _, hr, _⟩ := kN3
        cases e
        exact ((hr _ rfl).ext kE3).ext hE
      by_cases hlt : i < L.length
      · obtain ⟨t, ht⟩ : ∃ t, L[i]? = some t := ⟨_, List.getElem?_eq_getElem hlt⟩
        have htm := List.mem_of_getElem? ht
        have htl := l2 t htm
        have hdr : L.drop i = t :: L.drop (i + 1) := by
          rw [List.drop_eq_getElem_cons hlt]
          congr 1
          exact (List.getElem?_eq_some_iff.1 ht).2
        rw [hdr, asciiN_cons] at ha1 ha2
        by_cases ht0 : t = []
        · rw [if_pos ht0] at ha2
          have hr8 : (if (asciiN L).2 ≠ 0 then (([], (asciiN L).2) : List UInt8 × Int) else if 255 < szN (asciiN L).1 then ([], 3) else (txtN (asciiN L).1 d, 0)) = ([], 8) := by rw [ha2]; rfl
          rw [hr8]
          refine Cd.seq (Cd.region (Seg.step rfl rfl (Yd.lss rfl rfl) (Seg.nil (At.then_ (Cd.seq ?_)))))
          refine Cd.condk rfl (fun h70 => ?_) (fun h70 => ?_)
          · refine Cd.skip (At.then_ (Cd.seq (Cd.block (Cd.seq (Cd.region (Seg.step rfl rfl (Yd.indexAddr1 rfl rfl rfl (NatOf.cast _) (by omega)) (Seg.step rfl rfl (Yd.load1 rfl rfl ((hrow hEn) _ _ (strV_at ht))) ?_)))))))
            refine Seg.step rfl rfl (Yd.assign rfl) (Seg.nil (At.then_ (Cd.seq (Cd.seq (Cd.region (Seg.step rfl rfl (Yd.move rfl) (Seg.step rfl rfl (Yd.eqlS rfl rfl) ?_)))))))
            refine Seg.nil (At.then_ ?_)
            refine Cd.condk rfl (fun h90 => ?_) (fun h90 => ?_)
            · refine Cd.seq (Cd.region (Seg.step rfl rfl (Yd.assign rfl) (Seg.step rfl rfl (Yd.assign rfl) (Seg.nil (At.then_ (Cd.ret (At.then_ret ?_)))))))
              refine At.blk_ret (At.then_ret (At.then_ret (At.blk_ret (At.then_ret ?_))))
              exact At.ret Tryz.results12 (.tmp rfl (.tmp rfl .nil)) ⟨rfl, Ext.trans kE4 hEn⟩
            · contradiction
          · exfalso; omega
        · rw [if_neg ht0] at ha1 ha2
          by_cases he : (toA t).2 ≠ 0
          · rw [if_pos he] at ha2
            have hre : (if (asciiN L).2 ≠ 0 then (([], (asciiN L).2) : List UInt8 × Int) else if 255 < szN (asciiN L).1 then ([], 3) else (txtN (asciiN L).1 d, 0)) = ([], (toA t).2) := by rw [ha2, if_pos he]
            rw [hre]
            refine Cd.seq (Cd.region (Seg.step rfl rfl (Yd.lss rfl rfl) (Seg.nil (At.then_ (Cd.seq ?_)))))
            refine Cd.condk rfl (fun h70 => ?_) (fun h70 => ?_)
            · refine Cd.skip (At.then_ (Cd.seq (Cd.block (Cd.seq (Cd.region (Seg.step rfl rfl (Yd.indexAddr1 rfl rfl rfl (NatOf.cast _) (by omega)) (Seg.step rfl rfl (Yd.load1 rfl rfl ((hrow hEn) _ _ (strV_at ht))) ?_)))))))
              refine Seg.step rfl rfl (Yd.assign rfl) (Seg.nil (At.then_ (Cd.seq (Cd.seq (Cd.region (Seg.step rfl rfl (Yd.move rfl) (Seg.step rfl rfl (Yd.eqlS rfl rfl) ?_)))))))
              refine Seg.nil (At.then_ ?_)
              refine Cd.condk rfl (fun h90 => ?_) (fun h90 => ?_)
              · contradiction
              · refine Cd.skip (At.then_ (Cd.seq (Cd.region (Seg.step rfl rfl (Yd.move rfl) ?_))))
                (refine Seg.call rfl rfl (own_of rfl) rfl (ltoa_any t _ (by omega)) ?_; rintro _ w97 ⟨rfl, hE97⟩)
                replace hE4 := Ext.trans hE4 hE97
                replace hEn := Ext.trans hEn hE97
                refine Seg.step rfl rfl (Yd.move rfl) (Seg.step rfl rfl (Yd.extract rfl rfl) (Seg.step rfl rfl (Yd.extract rfl rfl) (Seg.step rfl rfl (Yd.assign rfl) (Seg.step rfl rfl (Yd.assign rfl) (Seg.nil (At.then_ (Cd.seq ?_)))))))
                refine Cd.seq (Cd.region (Seg.step rfl rfl (Yd.move rfl) (Seg.step rfl rfl (Yd.neq rfl rfl) (Seg.nil (At.then_ ?_)))))
                refine Cd.condk rfl (fun h112 => ?_) (fun h112 => ?_)
                · refine Cd.seq (Cd.region (Seg.step rfl rfl (Yd.move rfl) (Seg.step rfl rfl (Yd.assign rfl) (Seg.step rfl rfl (Yd.assign rfl) (Seg.nil (At.then_ (Cd.ret ?_)))))))
                  refine At.then_ret (At.blk_ret (At.then_ret (At.then_ret (At.blk_ret (At.then_ret ?_)))))
                  exact At.ret Tryz.results12 (.tmp rfl (.tmp rfl .nil)) ⟨rfl, Ext.trans kE4 hEn⟩
                · exfalso; omega
            · exfalso; omega
          · rw [if_neg he] at ha1 ha2
            have he0 : (toA t).2 = 0 := Classical.byContradiction he
            have h63 := toA_len he0
            have ha1' : (asciiN L).1 = (N ++ [(toA t).1]) ++ (asciiN (L.drop (i + 1))).1 := by rw [ha1]; simp
            have hN63' : ∀ a ∈ N ++ [(toA t).1], a.length ≤ 63 := fun a ha => by
              rcases List.mem_append.1 ha with ha | ha
              · exact hN63 a ha
              · rw [List.mem_singleton.1 ha]; exact h63
            refine Cd.seq (Cd.region (Seg.step rfl rfl (Yd.lss rfl rfl) (Seg.nil (At.then_ (Cd.seq ?_)))))
            refine Cd.condk rfl (fun h70 => ?_) (fun h70 => ?_)
            · refine Cd.skip (At.then_ (Cd.seq (Cd.block (Cd.seq (Cd.region (Seg.step rfl rfl (Yd.indexAddr1 rfl rfl rfl (NatOf.cast _) (by omega)) (Seg.step rfl rfl (Yd.load1 rfl rfl ((hrow hEn) _ _ (strV_at ht))) ?_)))))))
              refine Seg.step rfl rfl (Yd.assign rfl) (Seg.nil (At.then_ (Cd.seq (Cd.seq (Cd.region (Seg.step rfl rfl (Yd.move rfl) (Seg.step rfl rfl (Yd.eqlS rfl rfl) ?_)))))))
              refine Seg.nil (At.then_ ?_)
              refine Cd.condk rfl (fun h90 => ?_) (fun h90 => ?_)
              · contradiction
              · refine Cd.skip (At.then_ (Cd.seq (Cd.region (Seg.step rfl rfl (Yd.move rfl) ?_))))
                (refine Seg.call rfl rfl (own_of rfl) rfl (ltoa_any t _ (by omega)) ?_; rintro _ w97 ⟨rfl, hE97⟩)
                replace hE4 := Ext.trans hE4 hE97
                replace hEn := Ext.trans hEn hE97
                refine Seg.step rfl rfl (Yd.move rfl) (Seg.step rfl rfl (Yd.extract rfl rfl) (Seg.step rfl rfl (Yd.extract rfl rfl) (Seg.step rfl rfl (Yd.assign rfl) (Seg.step rfl rfl (Yd.assign rfl) (Seg.nil (At.then_ (Cd.seq ?_)))))))
                refine Cd.seq (Cd.region (Seg.step rfl rfl (Yd.move rfl) (Seg.step rfl rfl (Yd.neq rfl rfl) (Seg.nil (At.then_ ?_)))))
                refine Cd.condk rfl (fun h112 => ?_) (fun h112 => ?_)
                · exfalso; omega
                · refine Cd.skip (At.then_ (Cd.region (Seg.step rfl rfl (Yd.move rfl) (Seg.step rfl rfl (Yd.move rfl) (Seg.buildSliceV rfl rfl rfl rfl rfl rfl rfl rfl rfl rfl (fun w119 b119 hE119 hB119 hb119 hO119 => ?_))))))
                  have hlt119_0 := Nat.le_trans hE97.size hb119
                  have hlt119_1 := Nat.le_trans hE4.size hb119
                  have hlt119_2 := Nat.le_trans hEn.size hb119
                  replace hE97 := Ext.trans hE97 hE119
                  replace hE4 := Ext.trans hE4 hE119
                  replace hEn := Ext.trans hEn hE119
                  (refine Seg.appS (m := [(toA t).1]) rfl rfl rfl rfl rfl (own_ext kO hEn) (own_sl (by assumption)) (Below.size (Ext.trans kE3 hEn)) (by show _ + 1 ≤ _; omega) (fun v120 w120 hO120 _ hX120 hS120 _ => ?_); have hE5 := hX120 w (Ext.trans kE4 hEn) (Below.size hEw3); have hE6 := hX120 w3 (Ext.trans kE3 hEn) (Nat.le_refl _))
                  refine Seg.step rfl rfl (Yd.assign rfl) (Seg.nil (At.blk (At.then_ (Cd.region (Seg.step rfl rfl (Yd.addI rfl rfl (by omega)) (Seg.step rfl rfl (Yd.move rfl) (Seg.nil ?_)))))))
                  exact At.round (⟨i + 1, N ++ [(toA t).1], _⟩ : HsS) (.cons rfl (.cons rfl (.cons rfl (.cons rfl (.cons rfl (.nil _)))))) ⟨⟨hlt, ha2, ha1', by rw [List.length_append]; show _ + 1 = i + 1; omega, hN63'⟩, by assumption, hE6, hE5⟩ (Nat.sub_lt_sub_left hlt (Nat.lt_succ_self i))
            · exfalso; omega
      · obtain rfl : i = L.length := by omega
        rw [List.drop_length] at ha1 ha2
        have hA1 : (asciiN L).1 = N := by rw [ha1]; show N ++ [] = N; simp
        have hA2 : (asciiN L).2 = 0 := ha2
        rw [hA1, hA2, if_neg (show ¬ (0 : Int) ≠ 0 by decide)]
        have hNb := szN_bd hN63
        have hNne : N ≠ [] := fun h => by rw [h] at hNl; simp at hNl; omega
        have hkc := own_cap kO
        obtain ⟨g2, c2, zs2, rfl, hg2, hB2⟩ := own_bx kO (by omega)
        have hc2 := hkc _ _ _ rfl
        have kB2r : Keep (Row w4 ⟨g2, 0, none⟩ (strV N)) := by
          obtain ⟨ao', c', e, _, hr, _⟩ := own_sl kO
          cases e
          exact hr _ rfl
        have hg2l := hB2.lt
        by_cases hbig : 255 < szN N
        · rw [if_pos hbig]
          refine Cd.seq (Cd.region (Seg.step rfl rfl (Yd.lss rfl rfl) (Seg.nil (At.then_ (Cd.seq ?_)))))
          refine Cd.condk rfl (fun h70 => ?_) (fun h70 => ?_)
          · exfalso; omega
          · refine Cd.exit (At.then_exit (At.then_exit (At.blk_same (At.then_ (Cd.seq (Cd.seq (Cd.region ?_)))))))
            refine Seg.step rfl rfl (Yd.move rfl) ?_
            (refine Seg.call rfl rfl (own_of rfl) rfl (dsize_any N _ _ (own_sl (own_ext kO hEn)) (by omega)) ?_; rintro _ w81 ⟨rfl, hE81⟩)
            replace hE4 := Ext.trans hE4 hE81
            replace hEn := Ext.trans hEn hE81
            replace hB2 := hB2.ext hE81
            refine Seg.step rfl rfl (Yd.gtr rfl rfl) (Seg.nil (At.then_ ?_))
            refine Cd.condk rfl (fun h85 => ?_) (fun h85 => ?_)
            · refine Cd.seq (Cd.region (Seg.step rfl rfl (Yd.assign rfl) (Seg.step rfl rfl (Yd.assign rfl) (Seg.nil (At.then_ (Cd.ret (At.then_ret ?_)))))))
              exact At.ret Tryz.results12 (.tmp rfl (.tmp rfl .nil)) ⟨rfl, Ext.trans kE4 hEn⟩
            · exfalso; omega
        · rw [if_neg hbig]
          have htn := txt_end N d hNne
          have htl := txt_len N false
          have hdl : (if d then [46] else [] : List UInt8).length ≤ 1 := by split <;> simp
          refine Cd.seq (Cd.region (Seg.step rfl rfl (Yd.lss rfl rfl) (Seg.nil (At.then_ (Cd.seq ?_)))))
          refine Cd.condk rfl (fun h70 => ?_) (fun h70 => ?_)
          · exfalso; omega
          · refine Cd.exit (At.then_exit (At.then_exit (At.blk_same (At.then_ (Cd.seq (Cd.seq (Cd.region ?_)))))))
            refine Seg.step rfl rfl (Yd.move rfl) ?_
            (refine Seg.call rfl rfl (own_of rfl) rfl (dsize_any N _ _ (own_sl (own_ext kO hEn)) (by omega)) ?_; rintro _ w81 ⟨rfl, hE81⟩)
            replace hE4 := Ext.trans hE4 hE81
            replace hEn := Ext.trans hEn hE81
            replace hB2 := hB2.ext hE81
            refine Seg.step rfl rfl (Yd.gtr rfl rfl) (Seg.nil (At.then_ ?_))
            refine Cd.condk rfl (fun h85 => ?_) (fun h85 => ?_)
            · exfalso; omega
            · refine Cd.skip (At.then_ (Cd.seq (Cd.region (Seg.step rfl rfl (Yd.move rfl) ?_))))
              (refine Seg.call rfl rfl (own_of rfl) rfl (ajoin_any N g2 c2 _ (Row.ext kB2r hEn) (Nat.lt_of_lt_of_le hg2l (Below.size hEn)) hc2 (by omega)) ?_; rintro _ w92 ⟨rfl, hE92⟩)
              replace hE81 := Ext.trans hE81 hE92
              replace hE4 := Ext.trans hE4 hE92
              replace hEn := Ext.trans hEn hE92
              replace hB2 := hB2.ext hE92
              refine Seg.step rfl rfl (Yd.move rfl) ?_
              (refine Seg.step rfl rfl (Yd.addS rfl rfl (by omega)) ?_; rw [htn])
              refine Seg.step rfl rfl (Yd.assign rfl) (Seg.step rfl rfl (Yd.assign rfl) (Seg.nil (At.then_ (Cd.ret ?_))))
              exact At.ret Tryz.results12 (.tmp rfl (.tmp rfl .nil)) ⟨rfl, Ext.trans kE4 hEn⟩
theorem ihost_any (s : List UInt8) (w : World) (hl : s.length ≤ 900) : Ret Tryz.prog 12 #[.string ⟨s.toArray⟩] w fun v w' => v = resA (hostR s) ∧ Ext w w' :=
  ihost_gen s w (by omega) fun t ht => Nat.le_trans ((splB_len s).2.2 t ht) hl
end Go.Proofs.YtahpiaaffeiadaaGreat
