/- Addresses put in order: the reference's walk, and the comparison of lists. -/
import Derived.Test.YtdomaooegpeneaaAdg
namespace Go.Proofs.Ytdomaooegpeneaa
open Go Go.RowKit
noncomputable instance adrDec : DecidableEq Adr := fun a b => Classical.propDecidable _
theorem same8 (xs ys : List Adr) (v u : Value) (w : World) (h : AdrsAt w v xs) (h' : AdrsAt w u ys) (hx : ∀ a ∈ xs, WfA a) (hy : ∀ a ∈ ys, WfA a) (hl : xs.length ≤ 10000) (hl' : ys.length ≤ 10000) :
    Ret Try.prog 8 #[v, u] w fun r w' => r = .bool (decide (xs = ys)) ∧ Ext w w' := by
  have hE0 := Ext.refl w
  obtain ⟨ao, c, rfl, hl0, hr0, hz0⟩ := h
  obtain ⟨ao', c', rfl, hl0', hr0', hz0'⟩ := h'
  refine Ret.body Try.func8 rfl Try.ntmps8 rfl ?_
  by_cases hlen : xs.length = ys.length
  · refine Cd.seq ?_
    refine Cd.region ?_
    refine Seg.step rfl rfl (Yd.assign rfl) ?_
    refine Seg.nil ?_
    refine At.then_ ?_
    refine Cd.seq ?_
    refine Cd.seq ?_
    refine Cd.region ?_
    refine Seg.step rfl rfl (Yd.move rfl) ?_
    refine Seg.step rfl rfl (Yd.lenS rfl rfl) ?_
    refine Seg.step rfl rfl (Yd.move rfl) ?_
    refine Seg.step rfl rfl (Yd.lenS rfl rfl) ?_
    refine Seg.step rfl rfl (Yd.neq rfl rfl) ?_
    refine Seg.nil ?_
    refine At.then_ ?_
    refine Cd.condk rfl (fun h16 => ?_) (fun h16 => ?_)
    · exfalso; omega
    refine Cd.skip ?_
    refine At.then_ ?_
    refine Cd.seq ?_
    refine Cd.seq ?_
    refine Cd.region ?_
    refine Seg.step rfl rfl (Yd.assign rfl) ?_
    refine Seg.nil ?_
    refine At.then_ ?_
    refine Cd.block ?_
    refine Cd.loop (σ := Nat) (fun i => [(0, .slice ao xs.length c), (1, .slice ao' ys.length c'), (4, .bool false), (5, .int .i64 (i : Int))])
      (fun i w' => (i ≤ xs.length ∧ xs.take i = ys.take i) ∧ Ext w w') (fun i => xs.length - i) 0 (.cons rfl (.cons rfl (.cons rfl (.cons rfl (.nil _))))) ⟨⟨Nat.zero_le _, rfl⟩, by assumption⟩ ?_
    rintro i w0 ⟨⟨hi, hT⟩, hE0⟩
    by_cases hlt : i < xs.length
    · obtain ⟨d, rfl⟩ : ∃ d, ao = some d := by
        cases ao with
        | none => have := hz0 rfl; omega
        | some d => exact ⟨d, rfl⟩
      obtain ⟨d', rfl⟩ : ∃ d, ao' = some d := by
        cases ao' with
        | none => have := hz0' rfl; omega
        | some d => exact ⟨d, rfl⟩
      obtain ⟨a, hai⟩ : ∃ a, xs[i]? = some a := ⟨_, List.getElem?_eq_getElem hlt⟩
      obtain ⟨b, hbi⟩ : ∃ b, ys[i]? = some b := ⟨_, List.getElem?_eq_getElem (by omega)⟩
      have haw := hx a (List.mem_of_getElem? hai)
      have hbw := hy b (List.mem_of_getElem? hbi)
      have hrow : Row w (Addr.add d (i * 18)) a.cells := flat_row (cel := Adr.cells) (zs := []) (fun _ => rfl) (by rw [List.append_nil]; exact hr0 d rfl) hai
      have hrow' : Row w (Addr.add d' (i * 18)) b.cells := flat_row (cel := Adr.cells) (zs := []) (fun _ => rfl) (by rw [List.append_nil]; exact hr0' d' rfl) hbi
      have hr1 := hrow.ext hE0
      have hr2 := hrow'.ext hE0
      have hnext : ¬ ¬ a = b → xs.take (i + 1) = ys.take (i + 1) := fun h => by
        have h := Classical.not_not.1 h
        rw [List.take_add_one, List.take_add_one, hT, hai, hbi, h]
      have hstop : ¬ a = b → Value.bool false = .bool (decide (xs = ys)) := fun h => by
        rw [decide_eq_false (fun hc => h (by subst hc; rw [hai] at hbi; exact Option.some.inj hbi))]
      refine Cd.seq ?_
      refine Cd.seq ?_
      refine Cd.region ?_
      refine Seg.step rfl rfl (Yd.move rfl) ?_
      refine Seg.step rfl rfl (Yd.move rfl) ?_
      refine Seg.step rfl rfl (Yd.lenS rfl rfl) ?_
      refine Seg.step rfl rfl (Yd.lss rfl rfl) ?_
      refine Seg.nil ?_
      refine At.then_ ?_
      refine Cd.condk rfl (fun h26 => ?_) (fun h26 => ?_)
      rotate_left 1
      · exfalso; omega
      rotate_right 1
      refine Cd.skip ?_
      refine At.then_ ?_
      refine Cd.seq ?_
      refine Cd.block ?_
      refine Cd.seq ?_
      refine Cd.quiet (by kernel_rfl) (by kernel_rfl) ?_
      refine SegQ.step rfl rfl (fun w' hw' => Yd.move rfl) ?_
      refine SegQ.step rfl rfl (fun w' hw' => Yd.move rfl) ?_
      refine SegQ.step rfl rfl (fun w' hw' => Yd.indexAddr rfl rfl rfl (NatOf.cast _) (by omega)) ?_
      refine SegQ.step rfl rfl (fun w' hw' => Yd.loadN rfl rfl rfl (hr1.ext hw')) ?_
      refine SegQ.step rfl rfl (fun w' hw' => Yd.move rfl) ?_
      refine SegQ.step rfl rfl (fun w' hw' => Yd.move rfl) ?_
      refine SegQ.step rfl rfl (fun w' hw' => Yd.indexAddr rfl rfl rfl (NatOf.cast _) (by omega)) ?_
      refine SegQ.step rfl rfl (fun w' hw' => Yd.loadN rfl rfl rfl (hr2.ext hw')) ?_
      refine SegQ.step rfl rfl (fun w' hw' => Yd.neqD rfl rfl (by kernel_rfl) (by kernel_rfl) (by kernel_rfl) (by kernel_rfl) (adr_lits a haw) (adr_lits b hbw) (adr_eq a b)) ?_
      refine SegQ.nil fun w27 hE27 => ?_
      replace hE0 := Ext.trans hE0 hE27
      replace hr1 := hr1.ext hE27
      replace hr2 := hr2.ext hE27
      refine At.then_ ?_
      refine Cd.condk rfl (fun h29 => ?_) (fun h29 => ?_)
      · refine Cd.seq ?_
        refine Cd.region ?_
        refine Seg.step rfl rfl (Yd.assign rfl) ?_
        refine Seg.nil ?_
        refine At.then_ ?_
        refine Cd.ret ?_
        refine At.blk_ret ?_
        refine At.then_ret ?_
        refine At.then_ret ?_
        refine At.blk_ret ?_
        refine At.then_ret ?_
        exact At.ret Try.results8 (.tmp rfl .nil) ⟨hstop (by assumption), by assumption⟩
      · refine Cd.skip ?_
        refine At.blk ?_
        refine At.then_ ?_
        refine Cd.region ?_
        refine Seg.step rfl rfl (Yd.move rfl) ?_
        refine Seg.step rfl rfl (Yd.addI rfl rfl (by omega)) ?_
        refine Seg.step rfl rfl (Yd.assign rfl) ?_
        refine Seg.nil ?_
        exact At.round (i + 1) (.cons rfl (.cons rfl (.cons rfl (.cons rfl (.nil _))))) ⟨⟨by omega, hnext (by assumption)⟩, by assumption⟩ (by omega)
    · have hxy : Value.bool true = .bool (decide (xs = ys)) := by
        have h1 : i = xs.length := by omega
        rw [h1, List.take_length, hlen, List.take_length] at hT
        rw [decide_eq_true hT]
      refine Cd.seq ?_
      refine Cd.seq ?_
      refine Cd.region ?_
      refine Seg.step rfl rfl (Yd.move rfl) ?_
      refine Seg.step rfl rfl (Yd.move rfl) ?_
      refine Seg.step rfl rfl (Yd.lenS rfl rfl) ?_
      refine Seg.step rfl rfl (Yd.lss rfl rfl) ?_
      refine Seg.nil ?_
      refine At.then_ ?_
      refine Cd.condk rfl (fun h26 => ?_) (fun h26 => ?_)
      · exfalso; omega
      · refine Cd.exit ?_
        refine At.then_exit ?_
        refine At.then_exit ?_
        refine At.blk_same ?_
        refine At.then_ ?_
        refine Cd.seq ?_
        refine Cd.region ?_
        refine Seg.step rfl rfl (Yd.assign rfl) ?_
        refine Seg.nil ?_
        refine At.then_ ?_
        refine Cd.ret ?_
        exact At.ret Try.results8 (.tmp rfl .nil) ⟨hxy, by assumption⟩
  · have hne : Value.bool false = .bool (decide (xs = ys)) := by rw [decide_eq_false (fun h => hlen (congrArg _ h))]
    refine Cd.seq ?_
    refine Cd.region ?_
    refine Seg.step rfl rfl (Yd.assign rfl) ?_
    refine Seg.nil ?_
    refine At.then_ ?_
    refine Cd.seq ?_
    refine Cd.seq ?_
    refine Cd.region ?_
    refine Seg.step rfl rfl (Yd.move rfl) ?_
    refine Seg.step rfl rfl (Yd.lenS rfl rfl) ?_
    refine Seg.step rfl rfl (Yd.move rfl) ?_
    refine Seg.step rfl rfl (Yd.lenS rfl rfl) ?_
    refine Seg.step rfl rfl (Yd.neq rfl rfl) ?_
    refine Seg.nil ?_
    refine At.then_ ?_
    refine Cd.condk rfl (fun h16 => ?_) (fun h16 => ?_)
    · refine Cd.seq ?_
      refine Cd.region ?_
      refine Seg.step rfl rfl (Yd.assign rfl) ?_
      refine Seg.nil ?_
      refine At.then_ ?_
      refine Cd.ret ?_
      refine At.then_ret ?_
      exact At.ret Try.results8 (.tmp rfl .nil) ⟨hne, by assumption⟩
    · exfalso; omega
/-- The addresses by their places. -/
noncomputable def ordOf (ps : List El) (ads : List Adr) (n : Nat) : List Adr := (List.range n).flatMap fun k => ads.filter fun a => decide (placeOf ps a = k)
theorem ord_succ (ps : List El) (ads : List Adr) (n : Nat) : ordOf ps ads (n + 1) = ordOf ps ads n ++ ads.filter fun a => decide (placeOf ps a = n) := by
  simp [ordOf, List.range_succ]
theorem ord_len (ps : List El) (ads : List Adr) : ∀ n, (ordOf ps ads n).length ≤ n * ads.length
  | 0 => by simp [ordOf]
  | n + 1 => by
    rw [ord_succ, List.length_append, Nat.succ_mul]
    exact Nat.add_le_add (ord_len ps ads n) (List.length_filter_le _ _)
theorem own_lt {w : World} {base e k m : Nat} {v : Value} {cs : List Value} (h : w.ownsRow base e k v m cs) : ∀ p, v.ownBlock = some p → p < w.heap.size := by
  intro p hp
  obtain ⟨_, h2⟩ := h
  rcases h2 with ⟨rfl, rfl⟩ | ⟨g, cap, cur, rfl, _, hh, _⟩
  · cases hp
  · cases hp
    rcases Nat.lt_or_ge g w.heap.size with h' | h'
    · exact h'
    · simp [Array.getElem?_eq_none h'] at hh
/-- Addresses in a slice of one's own, its block below N. -/
def Own18 (w : World) (base N : Nat) (v : Value) (qs' : List Adr) : Prop := w.ownsRow base 26 18 v qs'.length (qs'.flatMap Adr.cells) ∧ ∀ p, v.ownBlock = some p → p < N
theorem Own18.ext {w w' : World} {base N : Nat} {v : Value} {qs' : List Adr} (h : Own18 w base N v qs') (hE : Ext w w') : Own18 w' base N v qs' := ⟨own_ext h.1 hE, h.2⟩
theorem Own18.wr {w w' : World} {base N b : Nat} {v : Value} {qs' : List Adr} (h : Own18 w base N v qs') (hg : Wr b w w') (hb : N ≤ b) : Own18 w' base N v qs' := ⟨own_wr h.1 hg (fun e => by have := h.2 _ e; omega), h.2⟩
theorem Own18.snoc {w : World} {base : Nat} {v : Value} {qs qs' : List Adr} {a : Adr} (h : w.ownsRow base 26 18 v (qs.length + 1) (qs.flatMap Adr.cells ++ a.cells)) (he : qs' = qs ++ [a]) : Own18 w base w.heap.size v qs' := by
  subst he
  refine ⟨?_, own_lt h⟩
  rw [List.flatMap_append, List.flatMap_cons, List.flatMap_nil, List.append_nil, List.length_append]
  exact h
theorem Own18.up {w : World} {base N N' : Nat} {v : Value} {qs qs' : List Adr} (h : Own18 w base N v qs) (hN : N ≤ N') (he : qs' = qs) : Own18 w base N' v qs' := by
  subst he
  exact ⟨h.1, fun p hp => Nat.lt_of_lt_of_le (h.2 p hp) hN⟩
theorem Own18.nil (w : World) (base : Nat) : Own18 w base w.heap.size (.slice none 0 0) [] := ⟨World.ownsRow_nil _ _ _ _, fun p hp => by cases hp⟩
theorem Own18.at {w : World} {base N : Nat} {v : Value} {qs' : List Adr} (h : Own18 w base N v qs') : AdrsAt w v qs' := own_sl h.1
theorem own_one {w : World} {base e k : Nat} {v : Value} {a : Array Value} (h : w.ownsRow base e k v 1 ([Value.agg a].flatMap zcells)) : Sl w k v 1 a.toList := by
  have := own_sl h
  simpa [zcells, Value.cells] using this
theorem ref10 (ps : List El) (ads : List Adr) (v u : Value) (w : World) (h : PfxAt w v ps) (hp : ∀ p ∈ ps, WfA p.1) (hl : ps.length ≤ 1000) (h' : AdrsAt w u ads) (ha : ∀ a ∈ ads, WfA a) (hl' : ads.length ≤ 1000) :
    Ret Try.prog 10 #[v, u] w fun r w' => AdrsAt w' r (ordOf ps ads (ps.length + 1)) ∧ Ext w w' := by
  have hE0 := Ext.refl w
  obtain ⟨ao, c, rfl, hl0, hr0, hz0⟩ := h'
  have hps := h
  obtain ⟨pao, pc, rfl, -, -, -⟩ := h
  refine Ret.body Try.func10 rfl Try.ntmps10 rfl ?_
  refine Cd.seq ?_
  refine Cd.region ?_
  refine Seg.step rfl rfl (Yd.assign rfl) ?_
  refine Seg.nil ?_
  refine At.then_ ?_
  refine Cd.seq ?_
  refine Cd.region ?_
  refine Seg.step rfl rfl (Yd.assign rfl) ?_
  refine Seg.nil ?_
  refine At.then_ ?_
  refine Cd.seq ?_
  refine Cd.seq ?_
  refine Cd.region ?_
  refine Seg.step rfl rfl (Yd.assign rfl) ?_
  refine Seg.nil ?_
  refine At.then_ ?_
  refine Cd.block ?_
  refine Cd.loop (σ := Nat × Value) (fun s => [(0, .slice pao ps.length pc), (1, .slice ao ads.length c), (4, .slice none 0 0), (5, s.2), (6, .int .i64 s.1)])
    (fun s w' => s.1 ≤ ps.length + 1 ∧ Own18 w' w.heap.size w'.heap.size s.2 (ordOf ps ads s.1) ∧ Ext w w') (fun s => ps.length + 1 - s.1) (0, .slice none 0 0) (.cons rfl (.cons rfl (.cons rfl (.cons rfl (.cons rfl (.nil _)))))) ⟨Nat.zero_le _, Own18.nil _ _, hE0⟩ ?_
  clear hE0
  rintro ⟨n, u⟩ w0 ⟨hn, hO, hE0⟩
  simp only at hn hO ⊢
  by_cases hln : n ≤ ps.length
  · have hol := ord_len ps ads n
    have hmul : n * ads.length ≤ 1000 * 1000 := Nat.mul_le_mul (by omega) hl'
    have hO' : Own18 w0 w.heap.size w0.heap.size u (ordOf ps ads n ++ (ads.take 0).filter fun a => decide (placeOf ps a = n)) := hO.up (Nat.le_refl _) (by simp)
    refine Cd.seq ?_
    refine Cd.seq ?_
    refine Cd.region ?_
    refine Seg.step rfl rfl (Yd.move rfl) ?_
    refine Seg.step rfl rfl (Yd.move rfl) ?_
    refine Seg.step rfl rfl (Yd.lenS rfl rfl) ?_
    refine Seg.step rfl rfl (Yd.leq rfl rfl) ?_
    refine Seg.nil ?_
    refine At.then_ ?_
    refine Cd.condk rfl (fun h10 => ?_) (fun h10 => ?_)
    rotate_left 1
    · exfalso; omega
    rotate_right 1
    refine Cd.skip ?_
    refine At.then_ ?_
    refine Cd.seq ?_
    refine Cd.block ?_
    refine Cd.seq ?_
    refine Cd.region ?_
    refine Seg.step rfl rfl (Yd.assign rfl) ?_
    refine Seg.nil ?_
    refine At.then_ ?_
    refine Cd.block ?_
    refine Cd.loop (σ := Nat × Value) (fun s => [(0, .slice pao ps.length pc), (1, .slice ao ads.length c), (4, .slice none 0 0), (5, s.2), (6, .int .i64 (n : Int)), (7, .int .i64 s.1)])
      (fun s w' => s.1 ≤ ads.length ∧ Own18 w' w.heap.size w'.heap.size s.2 (ordOf ps ads n ++ (ads.take s.1).filter fun a => decide (placeOf ps a = n)) ∧ Ext w w') (fun s => ads.length - s.1) (0, u) (.cons rfl (.cons rfl (.cons rfl (.cons rfl (.cons rfl (.cons rfl (.nil _))))))) ⟨Nat.zero_le _, hO', hE0⟩ ?_
    clear hE0 hO hO'
    rintro ⟨i, u⟩ w0 ⟨hi, hO, hE0⟩
    simp only at hi hO ⊢
    by_cases hlt : i < ads.length
    · obtain ⟨d, rfl⟩ : ∃ d, ao = some d := by
        cases ao with
        | none => have := hz0 rfl; omega
        | some d => exact ⟨d, rfl⟩
      obtain ⟨a, hai⟩ : ∃ a, ads[i]? = some a := ⟨_, List.getElem?_eq_getElem hlt⟩
      have haw := ha a (List.mem_of_getElem? hai)
      have hrow : Row w (Addr.add d (i * 18)) a.cells := flat_row (cel := Adr.cells) (zs := []) (fun _ => rfl) (by rw [List.append_nil]; exact hr0 d rfl) hai
      have hr1 := hrow.ext hE0
      have hle : ((ads.take i).filter fun a => decide (placeOf ps a = n)).length ≤ ads.length := Nat.le_trans (List.length_filter_le _ _) (List.length_take_le' i ads)
      have hol2 : (ordOf ps ads n ++ (ads.take i).filter fun a => decide (placeOf ps a = n)).length ≤ 1100000 := by rw [List.length_append]; omega
      have hsz := Ext.refl w0
      have hstep : (ads.take (i + 1)).filter (fun a => decide (placeOf ps a = n)) = (ads.take i).filter (fun a => decide (placeOf ps a = n)) ++ (if placeOf ps a = n then [a] else []) := by
        rw [List.take_add_one, List.filter_append, hai]
        by_cases hc : placeOf ps a = n <;> simp [hc]
      have hpl := fun w1 (hE : Ext w w1) => place7 ps a _ w1 (Sl.ext hps hE) hp haw hl
      by_cases hc : placeOf ps a = n
      · have hfin : ordOf ps ads n ++ (ads.take (i + 1)).filter (fun a => decide (placeOf ps a = n)) = (ordOf ps ads n ++ (ads.take i).filter fun a => decide (placeOf ps a = n)) ++ [a] := by rw [hstep, if_pos hc, List.append_assoc]
        rw [hc] at hpl
        generalize (ordOf ps ads n ++ (ads.take i).filter fun a => decide (placeOf ps a = n)) = G at hO hol2 hfin
        generalize hG2 : (ordOf ps ads n ++ (ads.take (i + 1)).filter fun a => decide (placeOf ps a = n)) = G2 at hfin
        clear hstep hol
        refine Cd.seq ?_
        refine Cd.seq ?_
        refine Cd.region ?_
        refine Seg.step rfl rfl (Yd.move rfl) ?_
        refine Seg.step rfl rfl (Yd.move rfl) ?_
        refine Seg.step rfl rfl (Yd.lenS rfl rfl) ?_
        refine Seg.step rfl rfl (Yd.lss rfl rfl) ?_
        refine Seg.nil ?_
        refine At.then_ ?_
        refine Cd.condk rfl (fun h20 => ?_) (fun h20 => ?_)
        rotate_left 1
        · exfalso; omega
        rotate_right 1
        refine Cd.skip ?_
        refine At.then_ ?_
        refine Cd.seq ?_
        refine Cd.block ?_
        refine Cd.seq ?_
        refine Cd.region ?_
        refine Seg.step rfl rfl (Yd.move rfl) ?_
        refine Seg.step rfl rfl (Yd.move rfl) ?_
        refine Seg.step rfl rfl (Yd.move rfl) ?_
        refine Seg.step rfl rfl (Yd.indexAddr rfl rfl rfl (NatOf.cast _) (by omega)) ?_
        refine Seg.step rfl rfl (Yd.loadN rfl rfl rfl hr1) ?_
        (refine Seg.call rfl rfl (own_of rfl) rfl (hpl _ hE0) ?_; rintro _ w33 ⟨rfl, hE33⟩)
        replace hE0 := Ext.trans hE0 hE33
        replace hr1 := hr1.ext hE33
        replace hsz := Ext.trans hsz hE33
        replace hO := hO.ext hE33
        refine Seg.step rfl rfl (Yd.move rfl) ?_
        refine Seg.step rfl rfl (Yd.eql rfl rfl) ?_
        refine Seg.nil ?_
        refine At.then_ ?_
        refine Cd.condk rfl (fun h38 => ?_) (fun h38 => ?_)
        rotate_left 1
        · exfalso; omega
        rotate_right 1
        refine Cd.region ?_
        refine Seg.step rfl rfl (Yd.move rfl) ?_
        refine Seg.step rfl rfl (Yd.move rfl) ?_
        refine Seg.step rfl rfl (Yd.move rfl) ?_
        refine Seg.step rfl rfl (Yd.indexAddr rfl rfl rfl (NatOf.cast _) (by omega)) ?_
        refine Seg.step rfl rfl (Yd.loadN rfl rfl rfl hr1) ?_
        (refine Seg.buildSliceV (vs := [Value.agg a.cells.toArray]) rfl rfl rfl rfl (by kernel_rfl) (by kernel_rfl) rfl rfl rfl rfl (fun w46 b46 hE46 hB46 hb46 hO46 => ?_); replace hO := hO.ext hE46; replace hE0 := hE0.trans hE46; replace hsz := hsz.trans hE46)
        refine Seg.append (news := a.cells) (m' := 1) rfl rfl rfl rfl rfl rfl rfl rfl rfl hO.1 (own_one hO46) (adrOne a) (Below.size hE0) (by omega) rfl (fun v90 w90 hN90 hG90 _ => ?_)
        replace hE0 := hE0.own hO.1 (Nat.le_refl _) hG90
        refine Seg.step rfl rfl (Yd.assign rfl) ?_
        refine Seg.nil ?_
        refine At.blk ?_
        refine At.then_ ?_
        refine Cd.region ?_
        refine Seg.step rfl rfl (Yd.move rfl) ?_
        refine Seg.step rfl rfl (Yd.addI rfl rfl (by omega)) ?_
        refine Seg.step rfl rfl (Yd.assign rfl) ?_
        refine Seg.nil ?_
        exact At.round (i + 1, _) (.cons rfl (.cons rfl (.cons rfl (.cons rfl (.cons rfl (.cons rfl (.nil _))))))) ⟨by show i + 1 ≤ _; omega, Own18.snoc hN90 (hG2.trans hfin), hE0⟩ (by show _ - (i + 1) < _ - i; omega)
      · have hfin : ordOf ps ads n ++ (ads.take (i + 1)).filter (fun a => decide (placeOf ps a = n)) = ordOf ps ads n ++ (ads.take i).filter fun a => decide (placeOf ps a = n) := by rw [hstep, if_neg hc, List.append_nil]
        generalize placeOf ps a = k at hpl hc
        generalize (ordOf ps ads n ++ (ads.take i).filter fun a => decide (placeOf ps a = n)) = G at hO hol2 hfin
        generalize hG2 : (ordOf ps ads n ++ (ads.take (i + 1)).filter fun a => decide (placeOf ps a = n)) = G2 at hfin
        clear hstep hol
        refine Cd.seq ?_
        refine Cd.seq ?_
        refine Cd.region ?_
        refine Seg.step rfl rfl (Yd.move rfl) ?_
        refine Seg.step rfl rfl (Yd.move rfl) ?_
        refine Seg.step rfl rfl (Yd.lenS rfl rfl) ?_
        refine Seg.step rfl rfl (Yd.lss rfl rfl) ?_
        refine Seg.nil ?_
        refine At.then_ ?_
        refine Cd.condk rfl (fun h20 => ?_) (fun h20 => ?_)
        · refine Cd.skip ?_
          refine At.then_ ?_
          refine Cd.seq ?_
          refine Cd.block ?_
          refine Cd.seq ?_
          refine Cd.region ?_
          refine Seg.step rfl rfl (Yd.move rfl) ?_
          refine Seg.step rfl rfl (Yd.move rfl) ?_
          refine Seg.step rfl rfl (Yd.move rfl) ?_
          refine Seg.step rfl rfl (Yd.indexAddr rfl rfl rfl (NatOf.cast _) (by omega)) ?_
          refine Seg.step rfl rfl (Yd.loadN rfl rfl rfl hr1) ?_
          (refine Seg.call rfl rfl (own_of rfl) rfl (hpl _ hE0) ?_; rintro _ w33 ⟨rfl, hE33⟩)
          replace hE0 := Ext.trans hE0 hE33
          replace hr1 := hr1.ext hE33
          replace hsz := Ext.trans hsz hE33
          replace hO := hO.ext hE33
          refine Seg.step rfl rfl (Yd.move rfl) ?_
          refine Seg.step rfl rfl (Yd.eql rfl rfl) ?_
          refine Seg.nil ?_
          refine At.then_ ?_
          refine Cd.condk rfl (fun h38 => ?_) (fun h38 => ?_)
          · exfalso; omega
          · refine Cd.skip ?_
            refine At.blk ?_
            refine At.then_ ?_
            refine Cd.region ?_
            refine Seg.step rfl rfl (Yd.move rfl) ?_
            refine Seg.step rfl rfl (Yd.addI rfl rfl (by omega)) ?_
            refine Seg.step rfl rfl (Yd.assign rfl) ?_
            refine Seg.nil ?_
            exact At.round (i + 1, _) (.cons rfl (.cons rfl (.cons rfl (.cons rfl (.cons rfl (.cons rfl (.nil _))))))) ⟨by show i + 1 ≤ _; omega, hO.up hsz.size (hG2.trans hfin), by assumption⟩ (by show _ - (i + 1) < _ - i; omega)
        · exfalso; omega
    · have : i = ads.length := by omega
      subst this
      have hnx : ordOf ps ads (n + 1) = ordOf ps ads n ++ (ads.take ads.length).filter fun a => decide (placeOf ps a = n) := by rw [ord_succ, List.take_length]
      refine Cd.seq ?_
      refine Cd.seq ?_
      refine Cd.region ?_
      refine Seg.step rfl rfl (Yd.move rfl) ?_
      refine Seg.step rfl rfl (Yd.move rfl) ?_
      refine Seg.step rfl rfl (Yd.lenS rfl rfl) ?_
      refine Seg.step rfl rfl (Yd.lss rfl rfl) ?_
      refine Seg.nil ?_
      refine At.then_ ?_
      refine Cd.condk rfl (fun h20 => ?_) (fun h20 => ?_)
      · exfalso; omega
      · refine Cd.exit ?_
        refine At.then_exit ?_
        refine At.then_exit ?_
        refine At.blk_same ?_
        refine At.blk ?_
        refine At.then_ ?_
        refine Cd.region ?_
        refine Seg.step rfl rfl (Yd.move rfl) ?_
        refine Seg.step rfl rfl (Yd.addI rfl rfl (by omega)) ?_
        refine Seg.step rfl rfl (Yd.assign rfl) ?_
        refine Seg.nil ?_
        exact At.round (n + 1, _) (.cons rfl (.cons rfl (.cons rfl (.cons rfl (.cons rfl (.nil _)))))) ⟨by show n + 1 ≤ _; omega, hO.up (Nat.le_refl _) hnx, by assumption⟩ (by show _ - (n + 1) < _ - n; omega)
  · have : n = ps.length + 1 := by omega
    subst this
    refine Cd.seq ?_
    refine Cd.seq ?_
    refine Cd.region ?_
    refine Seg.step rfl rfl (Yd.move rfl) ?_
    refine Seg.step rfl rfl (Yd.move rfl) ?_
    refine Seg.step rfl rfl (Yd.lenS rfl rfl) ?_
    refine Seg.step rfl rfl (Yd.leq rfl rfl) ?_
    refine Seg.nil ?_
    refine At.then_ ?_
    refine Cd.condk rfl (fun h10 => ?_) (fun h10 => ?_)
    · exfalso; omega
    · refine Cd.exit ?_
      refine At.then_exit ?_
      refine At.then_exit ?_
      refine At.blk_same ?_
      refine At.then_ ?_
      refine Cd.seq ?_
      refine Cd.region ?_
      refine Seg.step rfl rfl (Yd.move rfl) ?_
      refine Seg.step rfl rfl (Yd.assign rfl) ?_
      refine Seg.nil ?_
      refine At.then_ ?_
      refine Cd.ret ?_
      exact At.ret Try.results10 (.tmp rfl .nil) ⟨hO.at, by assumption⟩
end Go.Proofs.Ytdomaooegpeneaa
