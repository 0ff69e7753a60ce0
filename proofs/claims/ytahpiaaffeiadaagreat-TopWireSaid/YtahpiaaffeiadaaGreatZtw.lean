/- What is sent is what comes: the walk of wayfindertop.TopWire. -/
import Derived.Test.YtahpiaaffeiadaaGreatZdc
import Derived.Test.YtahpiaaffeiadaaGreatZsm
import Derived.Test.YtahpiaaffeiadaaGreatZsl
import Derived.Test.YtahpiaaffeiadaaGreatZfr
namespace Go.Proofs.YtahpiaaffeiadaaGreat
open Go Go.RowKit
theorem sleft_any (k : Nat) (po : Option Addr) (e0 e1 : UInt8) (j : Nat) (w : World) (hB : Bx w j [.pointer po, .int .i64 (k : Nat), .int .u8 e0.toNat, .int .u8 e1.toNat]) : Ret Tryz.prog 9 #[.pointer (some ⟨j, 0, none⟩)] w fun v w' => v = .int .i64 (k : Nat) ∧ Ext w w' := by
  have hE0 := Ext.refl w
  refine Ret.body Tryz.func9 rfl Tryz.ntmps9 rfl (Cd.seq (Cd.region (Seg.step rfl rfl (Yd.assign rfl) (Seg.nil (At.then_ (Cd.seq (Cd.seq ?_)))))))
  refine Cd.region (Seg.step rfl rfl (Yd.move rfl) (Seg.step rfl rfl (Yd.eqlNilP rfl rfl rfl) (Seg.nil (At.then_ (Cd.condF rfl (Cd.skip (At.then_ ?_)))))))
  refine Cd.seq (Cd.region (Seg.step rfl rfl (Yd.move rfl) (Seg.step rfl rfl (Yd.nilCheckP rfl) (Seg.step rfl rfl (Yd.fieldAddr rfl rfl) (Seg.step rfl rfl (Yd.load1 rfl rfl (hB.row _ _ rfl)) (Seg.step rfl rfl (Yd.assign rfl) (Seg.nil ?_)))))))
  refine At.then_ (Cd.ret ?_)
  exact At.ret Tryz.results9 (.tmp rfl .nil) ⟨rfl, hE0⟩
def msV (ms : List Mg) : List Value := ms.flatMap Mg.cells
theorem mg_len (M : Mg) : M.cells.length = 14 := rfl
theorem ms_part {w : World} : ∀ {ms : List Mg} {a : Addr}, Row w a (msV ms) → ∀ {i : Nat} {M : Mg}, ms[i]? = some M → Row w (a.add (i * 14)) M.cells
  | [], _, _, _, _, h => by simp at h
  | x :: ms, a, hR, 0, M, h => by
    obtain rfl : x = M := by simpa using h
    have := hR.take 14
    rw [msV, List.flatMap_cons, List.take_left' (mg_len x)] at this
    rw [Nat.zero_mul, Addr.add0]
    exact this
  | x :: ms, a, hR, i + 1, M, h => by
    have h1 := hR.drop 14
    have h2 : (msV (x :: ms)).drop 14 = msV ms := by
      rw [msV, List.flatMap_cons, List.drop_left' (mg_len x)]
      rfl
    rw [h2] at h1
    have := ms_part h1 (i := i) (M := M) (by simpa using h)
    rw [Deep.add_add] at this
    rwa [show 14 + i * 14 = (i + 1) * 14 by omega] at this
theorem msV_append (a b : List Mg) : msV (a ++ b) = msV a ++ msV b := List.flatMap_append
/-- Messages lie at v. -/
def MsAt (w : World) (v : Value) (ms : List Mg) : Prop := Sl w 14 v ms.length (msV ms) ∧ ∀ M ∈ ms, MgAt w M
theorem mg_one {w : World} {M : Mg} (h : MgAt w M) : ∀ c ∈ M.cells, c.oneCell' = true := by
  intro c hc
  obtain ⟨⟨⟨_, _, e0, _⟩, _⟩, hl⟩ := h
  obtain ⟨⟨_, _, e1, _⟩, _⟩ := hl (M.va, M.an) List.mem_cons_self
  obtain ⟨⟨_, _, e2, _⟩, _⟩ := hl (M.vu, M.au) (List.mem_cons_of_mem _ List.mem_cons_self)
  obtain ⟨⟨_, _, e3, _⟩, _⟩ := hl (M.ve, M.ex) (List.mem_cons_of_mem _ (List.mem_cons_of_mem _ List.mem_cons_self))
  simp only at e0 e1 e2 e3
  simp only [Mg.cells, Hd.cells, List.mem_append, List.mem_cons, List.not_mem_nil, or_false] at hc
  rcases hc with (rfl | rfl | rfl | rfl | rfl | rfl | rfl | rfl | rfl | rfl) | rfl | rfl | rfl | rfl <;> first | rfl | (rw [e0]; rfl) | (rw [e1]; rfl) | (rw [e2]; rfl) | (rw [e3]; rfl)
theorem frsF_len : ∀ (f : Nat) (X : List UInt8), (frsF f X).2.length ≤ X.length
  | 0, _ => Nat.le_refl _
  | f + 1, X => by
    unfold frsF
    split
    · exact Nat.le_trans (frsF_len f _) (by rw [List.length_drop]; omega)
    · exact Nat.le_refl _
theorem frs_len (X : List UInt8) : (frs X).2.length ≤ X.length := frsF_len _ _
/-- A row of one's own is no block that is made later. -/
theorem own_late {w : World} {base e k m j : Nat} {v : Value} {cs : List Value} (h : w.ownsRow base e k v m cs) (hj : w.heap.size ≤ j) : v.ownBlock ≠ some j := fun e => by
  rcases h.2 with ⟨rfl, _⟩ | ⟨g, cap, cur, rfl, hb, hg, _⟩
  · cases e
  · have e2 : g = j := Option.some.inj e
    subst e2
    have := (Array.getElem?_eq_some_iff.1 hg).1
    omega
/-- What was sent of the messages, and as what. -/
abbrev Ps := List (Mg × List UInt8)
def wireB (ps : Ps) : List UInt8 := (ps.map Prod.snd).flatMap frB
theorem wire_snoc (ps : Ps) (M : Mg) (S : List UInt8) : wireB (ps ++ [(M, S)]) = wireB ps ++ (beB 2 S.length ++ S) := by simp [wireB, frB]
def PsOk (w : World) (ps : Ps) : Prop := ∀ p ∈ ps, MgRd p.1 p.2 ∧ MgFit p.1 ∧ MgAt w p.1
theorem PsOk.snoc {w : World} {ps : Ps} {M : Mg} {S : List UInt8} (h : PsOk w ps) (h1 : MgRd M S) (h2 : MgFit M) (h3 : MgAt w M) : PsOk w (ps ++ [(M, S)]) := fun p hp => by
  rcases List.mem_append.1 hp with hp | hp
  · exact h p hp
  · rw [List.mem_singleton] at hp; subst hp; exact ⟨h1, h2, h3⟩
theorem wire_len {w : World} {ps : Ps} (h : PsOk w ps) : (wireB ps).length ≤ 65537 * ps.length := by
  induction ps with
  | nil => exact Nat.le_refl _
  | cons p ps ih =>
    have := ih fun q hq => h q (List.mem_cons_of_mem _ hq)
    have h1 := (h p List.mem_cons_self).1.2.1.2
    have e : (wireB (p :: ps)).length = 2 + p.2.length + (wireB ps).length := by
      show ((p.2 :: ps.map Prod.snd).flatMap frB).length = _
      rw [List.flatMap_cons, List.length_append, frB_len]; rfl
    rw [e, List.length_cons]
    omega
structure TwS where
  i : Nat
  ps : Ps
  v : Value
set_option maxHeartbeats 800000 in
theorem topw_any (ms : List Mg) (v0 : Value) (pack : Bool) (at' : Int) (w : World) (h0 : MsAt w v0 ms) (hh : ∀ M ∈ ms, MgHeld M) (hn : ms.length ≤ 140737488351232) :
    Ret Tryz.prog 3 #[v0, .bool pack, .int .i64 at'] w fun v w' => v = .bool true ∧ Ext w w' := by
  have hE0 := Ext.refl w
  obtain ⟨⟨ao, c, rfl, hl0, hr0, hz0⟩, hm⟩ := h0
  refine Ret.body Tryz.func3 rfl Tryz.ntmps3 rfl ?_
  by_cases h5 : (5 : Int) < (ms.length : Int)
  · refine Cd.seq (Cd.region (Seg.step rfl rfl (Yd.assign rfl) (Seg.nil (At.then_ (Cd.seq (Cd.seq (Cd.region ?_)))))))
    (refine Seg.call rfl rfl (own_of rfl) rfl (wired_any _) ?_; rintro _ w14 ⟨rfl, hE14⟩)
    replace hE0 := Ext.trans hE0 hE14
    refine Seg.step rfl rfl (Yd.not rfl) (Seg.step rfl rfl (Yd.move rfl) (Seg.step rfl rfl (Yd.move rfl) (Seg.step rfl rfl (Yd.lenS rfl rfl) (Seg.step rfl rfl (Yd.gtr rfl rfl) (Seg.step rfl rfl (Yd.pickF rfl rfl) (Seg.nil (At.then_ ?_)))))))
    refine Cd.condk rfl (fun h23 => ?_) (fun h23 => ?_)
    · refine Cd.seq (Cd.region ?_)
      (refine Seg.call rfl rfl (own_of rfl) rfl (wired_any _) ?_; rintro _ w27 ⟨rfl, hE27⟩)
      replace hE14 := Ext.trans hE14 hE27
      replace hE0 := Ext.trans hE0 hE27
      refine Seg.step rfl rfl (Yd.assign rfl) (Seg.nil (At.then_ (Cd.ret (At.then_ret ?_))))
      exact At.ret Tryz.results3 (.tmp rfl .nil) ⟨rfl, by assumption⟩
    · exfalso; omega
  · refine Cd.seq (Cd.region (Seg.step rfl rfl (Yd.assign rfl) (Seg.nil (At.then_ (Cd.seq (Cd.seq (Cd.region ?_)))))))
    (refine Seg.call rfl rfl (own_of rfl) rfl (wired_any _) ?_; rintro _ w14 ⟨rfl, hE14⟩)
    replace hE0 := Ext.trans hE0 hE14
    refine Seg.step rfl rfl (Yd.not rfl) (Seg.step rfl rfl (Yd.move rfl) (Seg.step rfl rfl (Yd.move rfl) (Seg.step rfl rfl (Yd.lenS rfl rfl) (Seg.step rfl rfl (Yd.gtr rfl rfl) (Seg.step rfl rfl (Yd.pickF rfl rfl) (Seg.nil (At.then_ ?_)))))))
    refine Cd.condk rfl (fun h23 => ?_) (fun h23 => ?_)
    · exfalso; omega
    refine Cd.skip (At.then_ (Cd.seq (Cd.region (Seg.step rfl rfl (Yd.assign rfl) (Seg.nil (At.then_ (Cd.seq ?_)))))))
    refine Cd.region (Seg.step rfl rfl (Yd.assign rfl) (Seg.nil (At.then_ (Cd.seq (Cd.seq (Cd.region (Seg.step rfl rfl (Yd.assign rfl) ?_)))))))
    refine Seg.nil (At.then_ (Cd.block ?_))
    refine Cd.loop (σ := TwS) (fun t => [(0, .slice ao ms.length c), (1, .bool pack), (2, .int .i64 at'), (7, .string ⟨(wireB t.ps).toArray⟩), (8, t.v), (9, .int .i64 (t.i : Nat))])
      (fun t w' => (t.i ≤ ms.length ∧ t.ps.length ≤ t.i ∧ Keep (PsOk w t.ps)) ∧ Keep (w'.ownsRow w.heap.size 30 14 t.v t.ps.length (msV (t.ps.map Prod.fst))) ∧ Ext w w') (fun t => ms.length - t.i) ⟨0, [], .slice none 0 0⟩ (.cons rfl (.cons rfl (.cons rfl (.cons rfl (.cons rfl (.cons rfl (.nil _)))))))
      ⟨⟨Nat.zero_le _, Nat.le_refl _, fun p hp => by cases hp⟩, World.ownsRow_nil _ _ _ _, by assumption⟩ ?_
    clear hE0
    rintro ⟨i, ps, v⟩ w1 ⟨⟨hi, hpl, kP⟩, kO, hE1⟩
    simp only at hi hpl kP kO ⊢
    have hwl := wire_len kP
    by_cases hlt : i < ms.length
    · obtain ⟨a, rfl⟩ : ∃ a, ao = some a := by
        cases ao with
        | none => have := hz0 rfl; omega
        | some a => exact ⟨a, rfl⟩
      have hr0 := hr0 a rfl
      obtain ⟨M, hMi⟩ : ∃ M, ms[i]? = some M := ⟨_, List.getElem?_eq_getElem hlt⟩
      have hMm := List.mem_of_getElem? hMi
      have hMA : Keep (MgAt w M) := hm M hMm
      have hone := mg_one (hm M hMm)
      have hrow := ms_part hr0 hMi
      have hMh := hh M hMm
      have hEn := Ext.refl w1
      obtain ⟨va, vc, rfl⟩ := own_shape (show w1.ownsRow _ _ _ v _ _ from kO)
      refine Cd.seq (Cd.seq (Cd.region (Seg.step rfl rfl (Yd.move rfl) (Seg.step rfl rfl (Yd.move rfl) (Seg.step rfl rfl (Yd.lenS rfl rfl) (Seg.step rfl rfl (Yd.lss rfl rfl) (Seg.nil ?_)))))))
      refine At.then_ ?_
      refine Cd.condk rfl (fun h33 => ?_) (fun h33 => ?_)
      rotate_left 1
      · exfalso; omega
      rotate_right 1
      refine Cd.skip (At.then_ (Cd.seq (Cd.block (Cd.seq (Cd.seq (Cd.region (Seg.step rfl rfl (Yd.move rfl) ?_)))))))
      refine Seg.step rfl rfl (Yd.move rfl) (Seg.step rfl rfl (Yd.indexAddr rfl rfl rfl (NatOf.cast _) (by omega)) (Seg.step rfl rfl (Yd.loadN rfl rfl rfl (hrow.ext hE1)) ?_))
      (refine Seg.call rfl rfl (own_of rfl) rfl (small14_any M _ (MgAt.ext hMA hE1) hMh) ?_; rintro _ w46 ⟨⟨e1, rfl, hfit⟩, hE46⟩)
      replace hE1 := Ext.trans hE1 hE46
      replace hEn := Ext.trans hEn hE46
      refine Seg.step rfl rfl (Yd.neq rfl rfl) (Seg.nil (At.then_ ?_))
      refine Cd.condk rfl (fun h50 => ?_) (fun h50 => ?_)
      · refine Cd.seq (Cd.region (Seg.step rfl rfl (Yd.assign rfl) (Seg.nil (At.then_ (Cd.ret (At.then_ret (At.blk_ret ?_)))))))
        refine At.then_ret (At.then_ret (At.blk_ret (At.then_ret ?_)))
        exact At.ret Tryz.results3 (.tmp rfl .nil) ⟨rfl, by assumption⟩
      refine Cd.skip (At.then_ (Cd.seq (Cd.region (Seg.step rfl rfl (Yd.move rfl) (Seg.step rfl rfl (Yd.move rfl) (Seg.step rfl rfl (Yd.indexAddr rfl rfl rfl (NatOf.cast _) (by omega)) (Seg.step rfl rfl (Yd.loadN rfl rfl rfl (hrow.ext hE1)) ?_)))))))
      refine Seg.step rfl rfl (Yd.move rfl) ?_
      (refine Seg.call rfl rfl (own_of rfl) rfl (gencode_any M pack _ (MgAt.ext hMA hE1) (hfit (Classical.not_not.1 (by assumption)))) ?_; rintro _ w75 ⟨⟨e2, S, rfl, hrd⟩, hE75⟩)
      replace hE46 := Ext.trans hE46 hE75
      replace hE1 := Ext.trans hE1 hE75
      replace hEn := Ext.trans hEn hE75
      refine Seg.step rfl rfl (Yd.move rfl) (Seg.step rfl rfl (Yd.extract rfl rfl) (Seg.step rfl rfl (Yd.extract rfl rfl) (Seg.step rfl rfl (Yd.assign rfl) (Seg.step rfl rfl (Yd.assign rfl) (Seg.nil (At.then_ (Cd.seq ?_)))))))
      refine Cd.seq (Cd.region (Seg.step rfl rfl (Yd.move rfl) (Seg.step rfl rfl (Yd.neq rfl rfl) (Seg.nil (At.then_ ?_)))))
      refine Cd.condk rfl (fun h90 => ?_) (fun h90 => ?_)
      · refine Cd.exit (At.then_exit (At.blk_same (At.then_ (Cd.region (Seg.step rfl rfl (Yd.move rfl) (Seg.step rfl rfl (Yd.addI rfl rfl (by omega)) (Seg.step rfl rfl (Yd.assign rfl) ?_)))))))
        refine Seg.nil ?_
        exact At.round (⟨i + 1, ps, .slice va ps.length vc⟩ : TwS) (.cons rfl (.cons rfl (.cons rfl (.cons rfl (.cons rfl (.cons rfl (.nil _))))))) ⟨⟨hlt, Nat.le_succ_of_le hpl, kP⟩, own_ext kO hEn, by assumption⟩ (Nat.sub_lt_sub_left hlt (Nat.lt_succ_self i))
      refine Cd.skip (At.then_ (Cd.seq (Cd.region (Seg.step rfl rfl (Yd.move rfl) ?_))))
      (refine Seg.call rfl rfl (own_of rfl) rfl (sput_any S _ (hrd (Classical.not_not.1 (by assumption))).2.1.2) ?_; rintro _ w108 ⟨rfl, hE108⟩; have kR : Keep (MgRd M S) := hrd (Classical.not_not.1 (by assumption)); have hSl := kR.2.1.2; have hfl : (beB 2 S.length ++ S).length = 2 + S.length := frB_len S)
      replace hE75 := Ext.trans hE75 hE108
      replace hE46 := Ext.trans hE46 hE108
      replace hE1 := Ext.trans hE1 hE108
      replace hEn := Ext.trans hEn hE108
      refine Seg.step rfl rfl (Yd.move rfl) (Seg.step rfl rfl (Yd.extract rfl rfl) (Seg.step rfl rfl (Yd.extract rfl rfl) (Seg.step rfl rfl (Yd.assign rfl) (Seg.step rfl rfl (Yd.assign rfl) (Seg.nil (At.then_ (Cd.seq ?_)))))))
      refine Cd.seq (Cd.region (Seg.step rfl rfl (Yd.move rfl) (Seg.step rfl rfl (Yd.neq rfl rfl) (Seg.nil (At.then_ (Cd.condF rfl (Cd.skip ?_)))))))
      refine At.then_ (Cd.seq (Cd.region (Seg.step rfl rfl (Yd.move rfl) (Seg.step rfl rfl (Yd.move rfl) (Seg.step rfl rfl (Yd.addS rfl rfl (by omega)) (Seg.step rfl rfl (Yd.assign rfl) (Seg.nil ?_)))))))
      refine At.then_ (Cd.region (Seg.step rfl rfl (Yd.move rfl) (Seg.step rfl rfl (Yd.move rfl) (Seg.step rfl rfl (Yd.move rfl) (Seg.step rfl rfl (Yd.indexAddr rfl rfl rfl (NatOf.cast _) (by omega)) (Seg.step rfl rfl (Yd.loadN rfl rfl rfl (hrow.ext hE1)) (Seg.buildSliceV rfl rfl rfl rfl rfl rfl rfl rfl rfl rfl (fun w140 b140 hE140 hB140 hb140 hO140 => ?_))))))))
      have hlt140_0 := Nat.le_trans hE108.size hb140
      have hlt140_1 := Nat.le_trans hE75.size hb140
      have hlt140_2 := Nat.le_trans hE46.size hb140
      have hlt140_3 := Nat.le_trans hE1.size hb140
      have hlt140_4 := Nat.le_trans hEn.size hb140
      replace hE108 := Ext.trans hE108 hE140
      replace hE75 := Ext.trans hE75 hE140
      replace hE46 := Ext.trans hE46 hE140
      replace hE1 := Ext.trans hE1 hE140
      replace hEn := Ext.trans hEn hE140
      have kO4 := own_ext (show w1.ownsRow w.heap.size 30 14 (.slice va ps.length vc) ps.length (msV (ps.map Prod.fst)) from kO) hEn
      have hz14 : List.flatMap zcells [Value.agg M.cells.toArray] = msV [M] := rfl
      refine Seg.append (s := 13) (m := ps.length) (m' := 1) rfl rfl rfl rfl rfl rfl rfl rfl rfl kO4 (own_sl (by assumption)) (fun x hx => hone x (by rw [hz14] at hx; simpa [msV] using hx)) (Nat.le_trans (Below.size hE1) (Nat.le_refl _)) (by omega) rfl (fun v5 w5 hO5 hG5 _ => ?_)
      rw [hz14, ← msV_append] at hO5
      have hE5 : Ext w w5 := Ext.own hE1 kO4 (Nat.le_refl _) hG5
      have kO5 : Keep (w5.ownsRow w.heap.size 30 14 v5 (ps ++ [(M, S)]).length (msV ((ps ++ [(M, S)]).map Prod.fst))) := by
        rw [List.length_append, List.map_append]; exact hO5
      have kP5 : Keep (PsOk w (ps ++ [(M, S)])) := PsOk.snoc kP kR (hfit (Classical.not_not.1 (by assumption))) hMA
      have hpl5 : (ps ++ [(M, S)]).length ≤ i + 1 := by rw [List.length_append]; exact Nat.succ_le_succ hpl
      have hEm := Ext.refl w5
      rw [← wire_snoc ps M S]
      clear hO5 hG5 kO4 hE1 hEn
      refine Seg.step rfl rfl (Yd.assign rfl) (Seg.nil (At.blk (At.then_ (Cd.region (Seg.step rfl rfl (Yd.move rfl) (Seg.step rfl rfl (Yd.addI rfl rfl (by omega)) (Seg.step rfl rfl (Yd.assign rfl) ?_)))))))
      refine Seg.nil ?_
      exact At.round (⟨i + 1, ps ++ [(M, S)], v5⟩ : TwS) (.cons rfl (.cons rfl (.cons rfl (.cons rfl (.cons rfl (.cons rfl (.nil _))))))) ⟨⟨hlt, hpl5, kP5⟩, own_ext kO5 hEm, by assumption⟩ (Nat.sub_lt_sub_left hlt (Nat.lt_succ_self i))
    · obtain rfl : i = ms.length := by omega
      refine Cd.seq (Cd.seq (Cd.region (Seg.step rfl rfl (Yd.move rfl) (Seg.step rfl rfl (Yd.move rfl) (Seg.step rfl rfl (Yd.lenS rfl rfl) (Seg.step rfl rfl (Yd.lss rfl rfl) (Seg.nil ?_)))))))
      refine At.then_ ?_
      refine Cd.condk rfl (fun h33 => ?_) (fun h33 => ?_)
      · exfalso; omega
      refine Cd.exit (At.then_exit (At.then_exit (At.blk_same (At.then_ (Cd.seq (Cd.region (Seg.step rfl rfl (Yd.move rfl) ?_)))))))
      refine Seg.step rfl rfl (Yd.convI rfl rfl rfl) (Seg.step rfl rfl (Yd.move rfl) (Seg.step rfl rfl (Yd.lenStr rfl rfl) (Seg.step rfl rfl (Yd.addI rfl rfl (by omega)) (Seg.step rfl rfl (Yd.convI rfl rfl rfl) ?_))))
      have hps5 : ps.length ≤ 5 := by omega
      have hG0 : ∀ S ∈ ps.map Prod.snd, S.length ≤ 65535 := fun S hS => by
        obtain ⟨p, hp, rfl⟩ := List.mem_map.1 hS
        exact ((show PsOk w ps from kP) p hp).1.2.1.2
      obtain ⟨s, hs⟩ : ∃ s, s = wireB ps := ⟨_, rfl⟩
      obtain ⟨G, hGe⟩ : ∃ G, G = ps.map Prod.snd := ⟨_, rfl⟩
      have hGl : G.length = ps.length := by rw [hGe, List.length_map]
      have hcut := frs_cut hG0 (s := s) hs
      rw [← hGe] at hcut
      rw [← hs] at hwl ⊢
      have hsl : s.length ≤ 327685 := by omega
      rw [IntWalk.u64_in ((s.length : Int) + 1) (by omega)]
      have hu0 : 0 ≤ IntKind.u64.wrap at' := by rw [IntKind.wrap_u64]; exact Int.emod_nonneg _ (by decide)
      refine Seg.step rfl rfl (Yd.remN rfl rfl hu0 (by omega)) ?_
      obtain ⟨cu, hcu⟩ : ∃ cu : Nat, IntKind.u64.wrap at' % ((s.length : Int) + 1) = (cu : Int) := ⟨(IntKind.u64.wrap at' % ((s.length : Int) + 1)).toNat, (Int.toNat_of_nonneg (Int.emod_nonneg _ (by omega))).symm⟩
      have hcl : cu ≤ s.length := by
        have := Int.emod_lt_of_pos (IntKind.u64.wrap at') (show (0 : Int) < (s.length : Int) + 1 by omega)
        omega
      rw [hcu]
      have hcw : IntKind.i64.wrap (cu : Int) = cu := IntWalk.i64_in _ (by omega)
      obtain ⟨hc1, hc2⟩ := hcut cu
      have htl : (s.take cu).length ≤ 327685 := by rw [List.length_take]; omega
      have hdl : (s.drop cu).length ≤ 327685 := by rw [List.length_drop]; omega
      have hrl := frs_len (s.take cu)
      obtain ⟨L1, hL1⟩ : ∃ L, L = (frs (s.take cu)).1 := ⟨_, rfl⟩
      obtain ⟨R1, hR1⟩ : ∃ R, R = (frs (s.take cu)).2 := ⟨_, rfl⟩
      obtain ⟨L2, hL2⟩ : ∃ L, L = (frs (R1 ++ s.drop cu)).1 := ⟨_, rfl⟩
      rw [← hL1, ← hR1, ← hL2] at hc1
      rw [← hR1] at hc2 hrl
      have hLL : L1.length + L2.length = G.length := by rw [← hc1, List.length_append]
      clear hcut hG0 hu0 hcu
      obtain ⟨va, vc, rfl⟩ := own_shape (show w1.ownsRow _ _ _ v _ _ from kO)
      have hEn := Ext.refl w1
      (refine Seg.step rfl rfl (Yd.convN rfl rfl rfl hcw) ?_)
      refine Seg.step rfl rfl (Yd.assign rfl) (Seg.nil (At.then_ (Cd.seq (Cd.region (Seg.alloc rfl rfl rfl (fun w40 b40 hE40 hB40 hb40 => ?_))))))
      have hlt40_0 := Nat.le_trans hE1.size hb40
      have hlt40_1 := Nat.le_trans hEn.size hb40
      replace hE1 := Ext.trans hE1 hE40
      replace hEn := Ext.trans hEn hE40
      refine Seg.nil (At.then_ (Cd.seq (Cd.region (Seg.step rfl rfl (Yd.move rfl) (Seg.step rfl rfl (Yd.move rfl) (Seg.step rfl rfl (Yd.slStrH rfl rfl rfl (NatOf.cast _) (by omega)) ?_))))))
      (have hbj : b40 < _ := hB40.lt; refine Seg.call rfl rfl (own_of rfl) rfl (sfeed_any [] (s.take cu) [] _ _ ⟨rfl, .pointer none, 0, 0, (by assumption), rfl, fun h => absurd h (Nat.lt_irrefl 0), fun h => absurd h (Nat.not_lt_zero 1)⟩ (by show 0 + _ ≤ _; omega)) ?_; rw [show ([] : List UInt8) ++ s.take cu = s.take cu from rfl, ← hL1, ← hR1]; rintro v1 wf ⟨hN1, hF1, ⟨l1, hJ1⟩, hW1⟩; obtain ⟨a1, c1', rfl, _⟩ := id hN1; have hE2 : Ext w wf := Ext.wr' (by assumption) hW1 (by omega); have kO2 : Keep (wf.ownsRow w.heap.size 30 14 _ ps.length (msV (ps.map Prod.fst))) := own_wr (own_ext kO hEn) hW1 (own_late kO (by omega)); have hEf := Ext.refl wf; clear hE1)
      refine Seg.step rfl rfl (Yd.assign rfl) (Seg.nil (At.then_ (Cd.seq (Cd.region (Seg.step rfl rfl (Yd.move rfl) (Seg.step rfl rfl (Yd.move rfl) (Seg.step rfl rfl (Yd.slStrL rfl rfl rfl (NatOf.cast _) (by omega)) ?_)))))))
      (refine Seg.call rfl rfl (own_of rfl) rfl (sfeed_any R1 (s.drop cu) l1 _ _ (JnAt.ext hJ1 hEf) (by omega)) ?_; rw [hc2, ← hL2]; rintro v2 wg ⟨hN2, hF2, ⟨l2, _, v3, e0, e1, hB2, hP2, _, _⟩, hW2⟩; obtain ⟨po, rfl⟩ := PcAt.ptr hP2; obtain ⟨a2, c2', rfl, _⟩ := id hN2; have hN1g := Sl.wr (Sl.ext hN1 hEf) hW2 hF1; have hE3 : Ext w wg := Ext.wr' (by assumption) hW2 (by omega); have kO3 : Keep (wg.ownsRow w.heap.size 30 14 _ ps.length (msV (ps.map Prod.fst))) := own_wr (own_ext kO2 hEf) hW2 (own_late kO (by omega)); have kE3 : Keep (Ext w wg) := hE3; have hEg := Ext.refl wg; have hbg := hB2.lt; clear hE2 hN1)
      refine Seg.step rfl rfl (Yd.assign rfl) (Seg.nil (At.then_ (Cd.seq (Cd.region (Seg.step rfl rfl (Yd.assign rfl) (Seg.nil (At.then_ ?_)))))))
      refine Cd.seq (Cd.region (Seg.step rfl rfl (Yd.move rfl) (Seg.step rfl rfl (Yd.move rfl) ?_)))
      (refine Seg.appS (X := []) (m := L1) rfl rfl rfl rfl rfl (World.ownsRow_nil _ wg.heap.size _ _) (Sl.ext hN1g hEg) (Below.size hEg) (by show 0 + _ ≤ _; omega) (fun v4 wh hO4 hg4 hX4 hS4 _ => ?_); obtain ⟨a4, c4, rfl⟩ := own_shape hO4; have kO4 : Keep (OwnS wh wg.heap.size _ L1) := hO4; have hEgh : Ext wg wh := Ext.trans hEg (grown_ext hg4); have hEh := Ext.refl wh; clear hO4)
      refine Seg.step rfl rfl (Yd.assign rfl) (Seg.nil (At.then_ (Cd.seq (Cd.region (Seg.step rfl rfl (Yd.move rfl) (Seg.step rfl rfl (Yd.move rfl) ?_))))))
      (refine Seg.appS (X := L1) (m := L2) rfl rfl rfl rfl rfl (own_ext kO4 hEh) (Sl.ext hN2 (Ext.trans hEgh hEh)) (Nat.le_trans (Below.size hEgh) (Below.size hEh)) (by omega) (fun v5 wi hO5 hg5 hX5 hS5 _ => ?_); have hBi : Bx wi b40 [.pointer po, .int .i64 ((0 : Nat) : Int), .int .u8 e0.toNat, .int .u8 e1.toNat] := Bx.grown (Bx.ext hB2 (Ext.trans hEgh hEh)) hg5 (Ne.symm (own_noblk kO4 hbg)); have kOi : Keep (wi.ownsRow w.heap.size 30 14 _ ps.length (msV (ps.map Prod.fst))) := own_keep (own_ext kO4 hEh) (own_ext kO3 (Ext.trans hEgh hEh)) (by decide) hg5; have hEi : Ext w wi := hX5 w (Ext.trans kE3 (Ext.trans hEgh hEh)) (Below.size kE3); rw [hc1] at hO5; obtain ⟨a5, c5, rfl⟩ := own_shape hO5; have kGi : Keep (OwnS wi wg.heap.size _ G) := hO5; clear hO5 hX5 hg5 hN2 hN1g; have hEj := Ext.refl wi)
      refine Seg.step rfl rfl (Yd.assign rfl) (Seg.nil (At.then_ (Cd.seq (Cd.seq (Cd.region (Seg.step rfl rfl (Yd.move rfl) (Seg.step rfl rfl (Yd.lenS rfl rfl) ?_)))))))
      refine Seg.step rfl rfl (Yd.move rfl) (Seg.step rfl rfl (Yd.lenS rfl rfl) (Seg.step rfl rfl (Yd.neq rfl rfl) (Seg.step rfl rfl (Yd.move rfl) ?_)))
      refine Seg.gsplitp rfl rfl (fun h91 => ?_) (fun h91 => ?_)
      · exfalso; omega
      (refine Seg.call rfl rfl (own_of rfl) rfl (sleft_any 0 po e0 e1 _ _ (by assumption)) ?_; rintro _ w93 ⟨rfl, hE93⟩)
      replace hBi := hBi.ext hE93
      replace hEi := Ext.trans hEi hE93
      replace hEj := Ext.trans hEj hE93
      refine Seg.step rfl rfl (Yd.neq rfl rfl) (Seg.step rfl rfl (Yd.pickF rfl rfl) (Seg.nil (At.then_ (Cd.condF rfl (Cd.skip (At.then_ (Cd.seq ?_)))))))
      refine Cd.seq (Cd.region (Seg.step rfl rfl (Yd.assign rfl) (Seg.nil (At.then_ (Cd.block (Cd.loop (σ := Nat) (fun t => [(8, .slice va ps.length vc), (17, .slice a5 G.length c5), (18, .int .i64 (t : Int))]) (fun t w' => t ≤ G.length ∧ Ext w w' ∧ Ext wi w') (fun t => G.length - t) 0 (.cons rfl (.cons rfl (.cons rfl (.nil _)))) ⟨Nat.zero_le _, by assumption, by assumption⟩ ?_))))))
      clear hEi hEj hBi hEg hEgh hEh hEf hEn
      rintro i w2 ⟨hi2, hE1, hEi⟩
      by_cases hlt : i < G.length
      · obtain ⟨⟨M, S⟩, hpi⟩ : ∃ p, ps[i]? = some p := ⟨_, List.getElem?_eq_getElem (by omega)⟩
        obtain ⟨hR, hF, hMA⟩ := (show PsOk w ps from kP) _ (List.mem_of_getElem? hpi)
        simp only at hR hF hMA
        have hGi : G[i]? = some S := by rw [hGe, List.getElem?_map, hpi]; rfl
        have hMi : (ps.map Prod.fst)[i]? = some M := by rw [List.getElem?_map, hpi]; rfl
        obtain ⟨ga, gc, ge, _, ghr, ghz⟩ := own_sl (show OwnS wi wg.heap.size (.slice a5 G.length c5) G from kGi)
        cases ge
        obtain ⟨gp, rfl⟩ : ∃ a, a5 = some a := by
          cases a5 with
          | none => have := ghz rfl; omega
          | some a => exact ⟨a, rfl⟩
        have hrow := ghr gp rfl
        obtain ⟨qa, qc, qe, _, qhr, qhz⟩ := own_sl (show wi.ownsRow w.heap.size 30 14 (.slice va ps.length vc) ps.length (msV (ps.map Prod.fst)) from kOi)
        cases qe
        obtain ⟨qp, rfl⟩ : ∃ a, va = some a := by
          cases va with
          | none => have := qhz rfl; omega
          | some a => exact ⟨a, rfl⟩
        have hrow2 := ms_part (qhr qp rfl) hMi
        have hltp : i < ps.length := by omega
        have hone := mg_one hMA
        have kM : Keep (MgAt w M) := hMA
        have kR : Keep (MgRd M S) := hR
        clear ghr qhr hR hMA
        refine Cd.seq (Cd.seq (Cd.region (Seg.step rfl rfl (Yd.move rfl) (Seg.step rfl rfl (Yd.move rfl) (Seg.step rfl rfl (Yd.lenS rfl rfl) (Seg.step rfl rfl (Yd.lss rfl rfl) (Seg.nil ?_)))))))
        refine At.then_ ?_
        refine Cd.condk rfl (fun h103 => ?_) (fun h103 => ?_)
        · refine Cd.skip (At.then_ (Cd.seq (Cd.block (Cd.seq (Cd.region (Seg.step rfl rfl (Yd.move rfl) (Seg.step rfl rfl (Yd.move rfl) ?_)))))))
          refine Seg.step rfl rfl (Yd.indexAddr1 rfl rfl rfl (NatOf.cast _) (by omega)) (Seg.step rfl rfl (Yd.load1 rfl rfl ((hrow.ext hEi) _ _ (strV_at hGi))) ?_)
          (refine Seg.call rfl rfl (own_of rfl) rfl (gdecode_any M S _ kR hF) ?_; rintro _ w115 ⟨⟨N, rfl, hNA, hNh, hNq, hNa, hNu, hNx⟩, hE115⟩; have honN := mg_one hNA; have kN : Keep (MgAt w115 N) := hNA; have hEN := Ext.refl w115; clear hNA)
          replace hE1 := Ext.trans hE1 hE115
          replace hEi := Ext.trans hEi hE115
          refine Seg.step rfl rfl (Yd.move rfl) (Seg.step rfl rfl (Yd.extract rfl rfl) (Seg.step rfl rfl (Yd.extract rfl rfl) (Seg.alloc rfl rfl rfl (fun w119 b119 hE119 hB119 hb119 => ?_))))
          have hlt119_0 := Nat.le_trans hE115.size hb119
          have hlt119_1 := Nat.le_trans hEN.size hb119
          have hlt119_2 := Nat.le_trans hE1.size hb119
          have hlt119_3 := Nat.le_trans hEi.size hb119
          replace hE115 := Ext.trans hE115 hE119
          replace hEN := Ext.trans hEN hE119
          replace hE1 := Ext.trans hE1 hE119
          replace hEi := Ext.trans hEi hE119
          refine Seg.storeN rfl rfl rfl rfl hB119 rfl (by first | assumption | exact List.all_eq_true.1 rfl) (fun w120 hW120 hB120 => ?_)
          clear hB119
          replace hE119 := Ext.wr' hE119 hW120 (by omega)
          replace hE115 := Ext.wr' hE115 hW120 (by omega)
          replace hEN := Ext.wr' hEN hW120 (by omega)
          replace hE1 := Ext.wr' hE1 hW120 (by omega)
          replace hEi := Ext.wr' hEi hW120 (by omega)
          refine Seg.step rfl rfl (Yd.assign rfl) (Seg.nil (At.then_ (Cd.seq (Cd.quiet (by kernel_rfl) (by kernel_rfl) (SegQ.step rfl rfl (fun w' hw' => Yd.move rfl) (SegQ.step rfl rfl (fun w' hw' => Yd.neq rfl rfl) (SegQ.step rfl rfl (fun w' hw' => Yd.move rfl) ?_)))))))
          refine SegQ.step rfl rfl (fun w' hw' => Yd.loadN rfl rfl rfl (hB120.ext hw').row) (SegQ.step rfl rfl (fun w' hw' => Yd.move rfl) (SegQ.step rfl rfl (fun w' hw' => Yd.move rfl) (SegQ.step rfl rfl (fun w' hw' => Yd.indexAddr rfl rfl rfl (NatOf.cast _) (by omega)) (SegQ.step rfl rfl (fun w' hw' => Yd.loadN rfl rfl rfl (hrow2.ext (hEi.trans hw'))) (SegQ.call rfl rfl (own_of rfl) rfl (v := .bool true) (fun w9 hE9 => (same14_any N M w9 (MgAt.ext kN (hEN.trans hE9)) (MgAt.ext kM (hE1.trans hE9)) hNh (hd_wf kR.1.1) hNq hNa hNu hNx hF).mono fun v w2 ⟨hv, hE⟩ => ⟨hv, hE9.trans hE⟩) (SegQ.step rfl rfl (fun w' hw' => Yd.not rfl) (SegQ.step rfl rfl (fun w' hw' => Yd.pickF rfl rfl) ?_)))))))
          refine SegQ.nil fun w137 hE137 => ?_
          replace hW120 := Wr.trans hW120 (Ext.wr hE137 _)
          replace hB120 := hB120.ext hE137
          replace hE119 := Ext.trans hE119 hE137
          replace hE115 := Ext.trans hE115 hE137
          replace hEN := Ext.trans hEN hE137
          replace hE1 := Ext.trans hE1 hE137
          replace hEi := Ext.trans hEi hE137
          refine At.then_ (Cd.condF rfl (Cd.skip (At.blk (At.then_ (Cd.region (Seg.step rfl rfl (Yd.move rfl) (Seg.step rfl rfl (Yd.addI rfl rfl (by omega)) ?_)))))))
          refine Seg.step rfl rfl (Yd.assign rfl) (Seg.nil ?_)
          exact At.round (i + 1) (.cons rfl (.cons rfl (.cons rfl (.nil _)))) ⟨hlt, by assumption, by assumption⟩ (Nat.sub_lt_sub_left hlt (Nat.lt_succ_self i))
        · exfalso; omega
      · obtain rfl : i = G.length := by omega
        refine Cd.seq (Cd.seq (Cd.region (Seg.step rfl rfl (Yd.move rfl) (Seg.step rfl rfl (Yd.move rfl) (Seg.step rfl rfl (Yd.lenS rfl rfl) (Seg.step rfl rfl (Yd.lss rfl rfl) (Seg.nil ?_)))))))
        refine At.then_ ?_
        refine Cd.condk rfl (fun h103 => ?_) (fun h103 => ?_)
        · exfalso; omega
        · refine Cd.exit (At.then_exit (At.then_exit (At.blk_same (At.then_ (Cd.seq (Cd.region (Seg.step rfl rfl (Yd.assign rfl) ?_)))))))
          refine Seg.nil (At.then_ (Cd.ret ?_))
          exact At.ret Tryz.results3 (.tmp rfl .nil) ⟨rfl, by assumption⟩
end Go.Proofs.YtahpiaaffeiadaaGreat
