/- Services found: the walks. -/
import Derived.Test.YtbmgigbedmgfpaaFnd
namespace Go.Proofs.Ytbmgigbedmgfpaa
open Go Go.RowKit
def SvAt (w : World) (v : Value) (X : List Sv) : Prop := Sl w 3 v X.length (X.flatMap svV) ∧ ∀ x ∈ X, NameAt w x.1 x.2.names ∧ x.2.names.length ≤ 1000000
theorem SvAt.ext {w w' : World} {v : Value} {X : List Sv} (h : SvAt w v X) (hE : Ext w w') : SvAt w' v X := ⟨h.1.ext hE, fun x hx => ⟨(h.2 x hx).1.ext hE, (h.2 x hx).2⟩⟩
theorem sv_row {w : World} {ao : Option Addr} {n c : Nat} {X : List Sv} (h : SvAt w (.slice ao n c) X) {i : Nat} {x : Sv} (hi : X[i]? = some x) : ∃ d, ao = some d ∧ Row w (Addr.add d (i * 3)) (svV x) := by
  obtain ⟨⟨ao', c', e, hl, hr, hz⟩, _⟩ := h
  cases e
  have hlt := (List.getElem?_eq_some_iff.1 hi).1
  cases ao with
  | none => have := hz rfl; omega
  | some d => exact ⟨d, rfl, flat_row (cel := svV) (zs := []) svV_len (by simpa using hr d rfl) hi⟩
/-- None of the first i is what is looked for. -/
theorem find_skip {n : List UInt8} {pr : Int} : ∀ (L : List Svc) (i : Nat), (∀ s ∈ L.take i, ¬ (n ∈ s.names ∧ ofPr pr s)) → findB n pr L = findB n pr (L.drop i)
  | L, 0, _ => by simp
  | [], i + 1, _ => by simp
  | s :: L, i + 1, h => by
    rw [List.drop_succ_cons, ← find_skip L i (fun t ht => h t (by rw [List.take_succ_cons]; exact List.mem_cons_of_mem _ ht)), findB, if_neg (h s (by rw [List.take_succ_cons]; exact List.mem_cons_self))]
theorem name_skip {po pr : Int} : ∀ (L : List Svc) (i : Nat), (∀ s ∈ L.take i, ¬ (s.names ≠ [] ∧ s.port = po ∧ ofPr pr s)) → nameB po pr L = nameB po pr (L.drop i)
  | L, 0, _ => by simp
  | [], i + 1, _ => by simp
  | s :: L, i + 1, h => by
    rw [List.drop_succ_cons, ← name_skip L i (fun t ht => h t (by rw [List.take_succ_cons]; exact List.mem_cons_of_mem _ ht)), nameB, if_neg (h s (by rw [List.take_succ_cons]; exact List.mem_cons_self))]
theorem take_all {α : Type} {q : α → Prop} {L : List α} {i : Nat} {s : α} (h : ∀ t ∈ L.take i, q t) (hi : L[i]? = some s) (hs : q s) : ∀ t ∈ L.take (i + 1), q t := fun t ht => by
  rw [List.take_add_one, hi] at ht
  rcases List.mem_append.1 ht with ht | ht
  · exact h t ht
  · rw [List.mem_singleton.1 ht]; exact hs
theorem find_hit {n : List UInt8} {pr : Int} {L : List Svc} {i : Nat} {s : Svc} (h : ∀ t ∈ L.take i, ¬ (n ∈ t.names ∧ ofPr pr t)) (hi : L[i]? = some s) (hs : n ∈ s.names ∧ ofPr pr s) : findB n pr L = (s.port, true) := by
  obtain ⟨hlt, he⟩ := List.getElem?_eq_some_iff.1 hi
  rw [find_skip L i h, List.drop_eq_getElem_cons hlt, findB, he, if_pos hs]
theorem find_end {n : List UInt8} {pr : Int} {L : List Svc} {i : Nat} (h : ∀ t ∈ L.take i, ¬ (n ∈ t.names ∧ ofPr pr t)) (hi : L.length ≤ i) : findB n pr L = (0, false) := by
  rw [find_skip L i h, List.drop_of_length_le hi]; rfl
theorem name_hit {po pr : Int} {L : List Svc} {i : Nat} {s : Svc} (h : ∀ t ∈ L.take i, ¬ (t.names ≠ [] ∧ t.port = po ∧ ofPr pr t)) (hi : L[i]? = some s) (hs : s.names ≠ [] ∧ s.port = po ∧ ofPr pr s) : nameB po pr L = (s.names.headD [], true) := by
  obtain ⟨hlt, he⟩ := List.getElem?_eq_some_iff.1 hi
  rw [name_skip L i h, List.drop_eq_getElem_cons hlt, nameB, he, if_pos hs]
theorem name_end {po pr : Int} {L : List Svc} {i : Nat} (h : ∀ t ∈ L.take i, ¬ (t.names ≠ [] ∧ t.port = po ∧ ofPr pr t)) (hi : L.length ≤ i) : nameB po pr L = ([], false) := by
  rw [name_skip L i h, List.drop_of_length_le hi]; rfl
theorem find_any (X : List Sv) (n : List UInt8) (pr : Int) (v : Value) (w : World) (h : SvAt w v X) (hl : X.length ≤ 1000000) : Ret Try.prog 14 #[v, .string ⟨n.toArray⟩, .int .i64 pr] w fun r w' => r = .tuple #[.int .i64 (findB n pr (X.map Prod.snd)).1, .bool (findB n pr (X.map Prod.snd)).2] ∧ Ext w w' := by
  have hE0 := Ext.refl w
  have hX := h
  obtain ⟨⟨ao, c, rfl, -, -, -⟩, hn⟩ := h
  refine Ret.body Try.func14 rfl Try.ntmps14 rfl ?_
  refine Cd.seq ?_
  refine Cd.region ?_
  refine Seg.step rfl rfl (Yd.assign rfl) ?_
  refine Seg.step rfl rfl (Yd.assign rfl) ?_
  refine Seg.nil ?_
  refine At.then_ ?_
  refine Cd.seq ?_
  refine Cd.seq ?_
  refine Cd.region ?_
  refine Seg.step rfl rfl (Yd.move rfl) ?_
  refine Seg.step rfl rfl (Yd.lenS rfl rfl) ?_
  refine Seg.step rfl rfl (Yd.move rfl) ?_
  refine Seg.nil ?_
  refine At.then_ ?_
  refine Cd.block ?_
  refine Cd.loop (σ := Nat) (fun j => [(0, .slice ao X.length c), (1, .string ⟨n.toArray⟩), (2, .int .i64 pr), (6, .int .i64 0), (7, .bool false), (10, .slice ao X.length c), (11, .int .i64 (X.length : Int)), (12, .int .i64 (j : Int))])
    (fun j w' => j ≤ X.length ∧ (∀ t ∈ (X.map Prod.snd).take j, ¬ (n ∈ t.names ∧ ofPr pr t)) ∧ Ext w w') (fun j => X.length - j) 0 (.cons rfl (.cons rfl (.cons rfl (.cons rfl (.cons rfl (.cons rfl (.cons rfl (.cons rfl (.nil _))))))))) ⟨Nat.zero_le _, (fun t h => by simp at h), hE0⟩ ?_
  clear hE0
  rintro i w0 ⟨hi, hT, hE0⟩
  have hX0 := hX.ext hE0
  by_cases hlt : i < X.length
  · obtain ⟨x, hx⟩ : ∃ x, X[i]? = some x := ⟨_, List.getElem?_eq_getElem hlt⟩
    obtain ⟨u, s⟩ := x
    obtain ⟨d, rfl, hrow⟩ := sv_row hX0 hx
    obtain ⟨hnm, hnl⟩ := hX0.2 _ (List.mem_of_getElem? hx)
    have hD : (X.map Prod.snd)[i]? = some s := by simp [hx]
    simp only at hnm hnl
    have hnm' := hnm
    obtain ⟨ua, uc, rfl, -, -, -⟩ := hnm'
    have hE1 := Ext.refl w0
    have hE2 : Ext w w0 := hE0
    by_cases hp : ofPr pr s
    · have hpd : decide (ofPr pr s) = true := decide_eq_true hp
      by_cases hm : n ∈ s.names
      · have hmd : decide (n ∈ s.names) = true := decide_eq_true hm
        rw [find_hit hT hD ⟨hm, hp⟩]
        refine Cd.seq ?_
        refine Cd.region ?_
        refine Seg.step rfl rfl (Yd.lss rfl rfl) ?_
        refine Seg.nil ?_
        refine At.then_ ?_
        refine Cd.seq ?_
        refine Cd.condk rfl (fun h9 => ?_) (fun h9 => ?_)
        · refine Cd.skip ?_
          refine At.then_ ?_
          refine Cd.seq ?_
          refine Cd.block ?_
          refine Cd.seq ?_
          refine Cd.region ?_
          refine Seg.step rfl rfl (Yd.indexAddr rfl rfl rfl (NatOf.cast _) (by omega)) ?_
          refine Seg.step rfl rfl (Yd.loadN rfl rfl rfl hrow) ?_
          refine Seg.alloc rfl rfl rfl (fun w19 b19 hE19 hB19 hb19 => ?_)
          have hlt19_0 := Nat.le_trans hE0.size hb19
          have hlt19_1 := Nat.le_trans hE1.size hb19
          have hlt19_2 := Nat.le_trans hE2.size hb19
          replace hE0 := Ext.trans hE0 hE19
          replace hX0 := hX0.ext hE19
          replace hrow := hrow.ext hE19
          replace hE1 := Ext.trans hE1 hE19
          replace hE2 := Ext.trans hE2 hE19
          refine Seg.storeN rfl rfl rfl rfl hB19 rfl (by first | assumption | exact List.all_eq_true.1 rfl) (fun w20 hW20 hB20 => ?_)
          clear hB19
          replace hE19 := Ext.wr' hE19 hW20 (by omega)
          replace hE0 := Ext.wr' hE0 hW20 (by omega)
          replace hE1 := Ext.wr' hE1 hW20 (by omega)
          replace hE2 := Ext.wr' hE2 hW20 (by omega)
          refine Seg.nil ?_
          refine At.then_ ?_
          refine Cd.seq ?_
          refine Cd.region ?_
          refine Seg.step rfl rfl (Yd.loadN rfl rfl rfl hB20.row) ?_
          refine Seg.step rfl rfl (Yd.move rfl) ?_
          (refine Seg.call rfl rfl (own_of rfl) rfl (is_any (.slice ua s.names.length uc) s pr _) ?_; rw [hpd]; rintro _ w27 ⟨rfl, hE27⟩)
          replace hW20 := Wr.trans hW20 (Ext.wr hE27 _)
          replace hB20 := hB20.ext hE27
          replace hE19 := Ext.trans hE19 hE27
          replace hE0 := Ext.trans hE0 hE27
          replace hE1 := Ext.trans hE1 hE27
          replace hE2 := Ext.trans hE2 hE27
          refine Seg.step rfl rfl (Yd.move rfl) ?_
          refine Seg.step rfl rfl (Yd.fieldAddr rfl rfl) ?_
          refine Seg.step rfl rfl (Yd.load1 rfl rfl (hB20.row _ _ rfl)) ?_
          refine Seg.step rfl rfl (Yd.move rfl) ?_
          (refine Seg.call rfl rfl (own_of rfl) rfl (contains_any s.names n _ _ (hnm.ext hE1) hnl) ?_; rw [hmd]; rintro _ w32 ⟨rfl, hE32⟩)
          replace hE27 := Ext.trans hE27 hE32
          replace hW20 := Wr.trans hW20 (Ext.wr hE32 _)
          replace hB20 := hB20.ext hE32
          replace hE19 := Ext.trans hE19 hE32
          replace hE0 := Ext.trans hE0 hE32
          replace hE1 := Ext.trans hE1 hE32
          replace hE2 := Ext.trans hE2 hE32
          refine Seg.step rfl rfl (Yd.pickT rfl rfl) ?_
          refine Seg.nil ?_
          refine At.then_ ?_
          refine Cd.condT rfl ?_
          refine Cd.seq ?_
          refine Cd.region ?_
          refine Seg.step rfl rfl (Yd.fieldAddr rfl rfl) ?_
          refine Seg.step rfl rfl (Yd.load1 rfl rfl (hB20.row _ _ rfl)) ?_
          refine Seg.step rfl rfl (Yd.assign rfl) ?_
          refine Seg.step rfl rfl (Yd.assign rfl) ?_
          refine Seg.nil ?_
          refine At.then_ ?_
          refine Cd.ret ?_
          refine At.blk_ret ?_
          refine At.then_ret ?_
          refine At.then_ret ?_
          refine At.blk_ret ?_
          refine At.then_ret ?_
          exact At.ret Try.results14 (.tmp rfl (.tmp rfl .nil)) ⟨rfl, by assumption⟩
        · exfalso; omega
      · have hmd : decide (n ∈ s.names) = false := decide_eq_false hm
        refine Cd.seq ?_
        refine Cd.region ?_
        refine Seg.step rfl rfl (Yd.lss rfl rfl) ?_
        refine Seg.nil ?_
        refine At.then_ ?_
        refine Cd.seq ?_
        refine Cd.condk rfl (fun h9 => ?_) (fun h9 => ?_)
        · refine Cd.skip ?_
          refine At.then_ ?_
          refine Cd.seq ?_
          refine Cd.block ?_
          refine Cd.seq ?_
          refine Cd.region ?_
          refine Seg.step rfl rfl (Yd.indexAddr rfl rfl rfl (NatOf.cast _) (by omega)) ?_
          refine Seg.step rfl rfl (Yd.loadN rfl rfl rfl hrow) ?_
          refine Seg.alloc rfl rfl rfl (fun w19 b19 hE19 hB19 hb19 => ?_)
          have hlt19_0 := Nat.le_trans hE0.size hb19
          have hlt19_1 := Nat.le_trans hE1.size hb19
          have hlt19_2 := Nat.le_trans hE2.size hb19
          replace hE0 := Ext.trans hE0 hE19
          replace hX0 := hX0.ext hE19
          replace hrow := hrow.ext hE19
          replace hE1 := Ext.trans hE1 hE19
          replace hE2 := Ext.trans hE2 hE19
          refine Seg.storeN rfl rfl rfl rfl hB19 rfl (by first | assumption | exact List.all_eq_true.1 rfl) (fun w20 hW20 hB20 => ?_)
          clear hB19
          replace hE19 := Ext.wr' hE19 hW20 (by omega)
          replace hE0 := Ext.wr' hE0 hW20 (by omega)
          replace hE1 := Ext.wr' hE1 hW20 (by omega)
          replace hE2 := Ext.wr' hE2 hW20 (by omega)
          refine Seg.nil ?_
          refine At.then_ ?_
          refine Cd.seq ?_
          refine Cd.region ?_
          refine Seg.step rfl rfl (Yd.loadN rfl rfl rfl hB20.row) ?_
          refine Seg.step rfl rfl (Yd.move rfl) ?_
          (refine Seg.call rfl rfl (own_of rfl) rfl (is_any (.slice ua s.names.length uc) s pr _) ?_; rw [hpd]; rintro _ w27 ⟨rfl, hE27⟩)
          replace hW20 := Wr.trans hW20 (Ext.wr hE27 _)
          replace hB20 := hB20.ext hE27
          replace hE19 := Ext.trans hE19 hE27
          replace hE0 := Ext.trans hE0 hE27
          replace hE1 := Ext.trans hE1 hE27
          replace hE2 := Ext.trans hE2 hE27
          refine Seg.step rfl rfl (Yd.move rfl) ?_
          refine Seg.step rfl rfl (Yd.fieldAddr rfl rfl) ?_
          refine Seg.step rfl rfl (Yd.load1 rfl rfl (hB20.row _ _ rfl)) ?_
          refine Seg.step rfl rfl (Yd.move rfl) ?_
          (refine Seg.call rfl rfl (own_of rfl) rfl (contains_any s.names n _ _ (hnm.ext hE1) hnl) ?_; rw [hmd]; rintro _ w32 ⟨rfl, hE32⟩)
          replace hE27 := Ext.trans hE27 hE32
          replace hW20 := Wr.trans hW20 (Ext.wr hE32 _)
          replace hB20 := hB20.ext hE32
          replace hE19 := Ext.trans hE19 hE32
          replace hE0 := Ext.trans hE0 hE32
          replace hE1 := Ext.trans hE1 hE32
          replace hE2 := Ext.trans hE2 hE32
          refine Seg.step rfl rfl (Yd.pickT rfl rfl) ?_
          refine Seg.nil ?_
          refine At.then_ ?_
          refine Cd.condF rfl ?_
          refine Cd.skip ?_
          refine At.blk ?_
          refine At.then_ ?_
          refine Cd.region ?_
          refine Seg.step rfl rfl (Yd.addI rfl rfl (by omega)) ?_
          refine Seg.step rfl rfl (Yd.move rfl) ?_
          refine Seg.nil ?_
          exact At.round (i + 1) (.cons rfl (.cons rfl (.cons rfl (.cons rfl (.cons rfl (.cons rfl (.cons rfl (.cons rfl (.nil _))))))))) ⟨hlt, take_all hT hD (fun h => hm h.1), by assumption⟩ (Nat.sub_lt_sub_left hlt (Nat.lt_succ_self i))
        · exfalso; omega
    · have hpd : decide (ofPr pr s) = false := decide_eq_false hp
      refine Cd.seq ?_
      refine Cd.region ?_
      refine Seg.step rfl rfl (Yd.lss rfl rfl) ?_
      refine Seg.nil ?_
      refine At.then_ ?_
      refine Cd.seq ?_
      refine Cd.condk rfl (fun h9 => ?_) (fun h9 => ?_)
      · refine Cd.skip ?_
        refine At.then_ ?_
        refine Cd.seq ?_
        refine Cd.block ?_
        refine Cd.seq ?_
        refine Cd.region ?_
        refine Seg.step rfl rfl (Yd.indexAddr rfl rfl rfl (NatOf.cast _) (by omega)) ?_
        refine Seg.step rfl rfl (Yd.loadN rfl rfl rfl hrow) ?_
        refine Seg.alloc rfl rfl rfl (fun w19 b19 hE19 hB19 hb19 => ?_)
        have hlt19_0 := Nat.le_trans hE0.size hb19
        have hlt19_1 := Nat.le_trans hE1.size hb19
        have hlt19_2 := Nat.le_trans hE2.size hb19
        replace hE0 := Ext.trans hE0 hE19
        replace hX0 := hX0.ext hE19
        replace hrow := hrow.ext hE19
        replace hE1 := Ext.trans hE1 hE19
        replace hE2 := Ext.trans hE2 hE19
        refine Seg.storeN rfl rfl rfl rfl hB19 rfl (by first | assumption | exact List.all_eq_true.1 rfl) (fun w20 hW20 hB20 => ?_)
        clear hB19
        replace hE19 := Ext.wr' hE19 hW20 (by omega)
        replace hE0 := Ext.wr' hE0 hW20 (by omega)
        replace hE1 := Ext.wr' hE1 hW20 (by omega)
        replace hE2 := Ext.wr' hE2 hW20 (by omega)
        refine Seg.nil ?_
        refine At.then_ ?_
        refine Cd.seq ?_
        refine Cd.region ?_
        refine Seg.step rfl rfl (Yd.loadN rfl rfl rfl hB20.row) ?_
        refine Seg.step rfl rfl (Yd.move rfl) ?_
        (refine Seg.call rfl rfl (own_of rfl) rfl (is_any (.slice ua s.names.length uc) s pr _) ?_; rw [hpd]; rintro _ w27 ⟨rfl, hE27⟩)
        replace hW20 := Wr.trans hW20 (Ext.wr hE27 _)
        replace hB20 := hB20.ext hE27
        replace hE19 := Ext.trans hE19 hE27
        replace hE0 := Ext.trans hE0 hE27
        replace hE1 := Ext.trans hE1 hE27
        replace hE2 := Ext.trans hE2 hE27
        refine Seg.step rfl rfl (Yd.move rfl) ?_
        refine Seg.skip rfl rfl ?_
        refine Seg.skip rfl rfl ?_
        refine Seg.skip rfl rfl ?_
        refine Seg.skip rfl rfl ?_
        refine Seg.step rfl rfl (Yd.pickF rfl rfl) ?_
        refine Seg.nil ?_
        refine At.then_ ?_
        refine Cd.condF rfl ?_
        refine Cd.skip ?_
        refine At.blk ?_
        refine At.then_ ?_
        refine Cd.region ?_
        refine Seg.step rfl rfl (Yd.addI rfl rfl (by omega)) ?_
        refine Seg.step rfl rfl (Yd.move rfl) ?_
        refine Seg.nil ?_
        exact At.round (i + 1) (.cons rfl (.cons rfl (.cons rfl (.cons rfl (.cons rfl (.cons rfl (.cons rfl (.cons rfl (.nil _))))))))) ⟨hlt, take_all hT hD (fun h => hp h.2), by assumption⟩ (Nat.sub_lt_sub_left hlt (Nat.lt_succ_self i))
      · exfalso; omega
  · rw [find_end hT (by simp; omega)]
    refine Cd.seq ?_
    refine Cd.region ?_
    refine Seg.step rfl rfl (Yd.lss rfl rfl) ?_
    refine Seg.nil ?_
    refine At.then_ ?_
    refine Cd.seq ?_
    refine Cd.condk rfl (fun h7 => ?_) (fun h7 => ?_)
    · exfalso; omega
    · refine Cd.exit ?_
      refine At.then_exit ?_
      refine At.then_exit ?_
      refine At.blk_same ?_
      refine At.then_ ?_
      refine Cd.seq ?_
      refine Cd.region ?_
      refine Seg.step rfl rfl (Yd.assign rfl) ?_
      refine Seg.step rfl rfl (Yd.assign rfl) ?_
      refine Seg.nil ?_
      refine At.then_ ?_
      refine Cd.ret ?_
      exact At.ret Try.results14 (.tmp rfl (.tmp rfl .nil)) ⟨rfl, by assumption⟩
theorem rfind_any (X : List Sv) (n : List UInt8) (pr : Int) (v : Value) (w : World) (h : SvAt w v X) (hl : X.length ≤ 1000000) : Ret Try.prog 15 #[v, .string ⟨n.toArray⟩, .int .i64 pr] w fun r w' => r = .tuple #[.int .i64 (findB n pr (X.map Prod.snd)).1, .bool (findB n pr (X.map Prod.snd)).2] ∧ Ext w w' := by
  have hE0 := Ext.refl w
  have hX := h
  obtain ⟨⟨ao, c, rfl, -, -, -⟩, hn⟩ := h
  refine Ret.body Try.func15 rfl Try.ntmps15 rfl ?_
  refine Cd.seq ?_
  refine Cd.region ?_
  refine Seg.step rfl rfl (Yd.assign rfl) ?_
  refine Seg.step rfl rfl (Yd.assign rfl) ?_
  refine Seg.nil ?_
  refine At.then_ ?_
  refine Cd.seq ?_
  refine Cd.seq ?_
  refine Cd.region ?_
  refine Seg.step rfl rfl (Yd.assign rfl) ?_
  refine Seg.nil ?_
  refine At.then_ ?_
  refine Cd.block ?_
  refine Cd.loop (σ := Nat) (fun j => [(0, .slice ao X.length c), (1, .string ⟨n.toArray⟩), (2, .int .i64 pr), (6, .int .i64 0), (7, .bool false), (8, .int .i64 (j : Int))])
    (fun j w' => j ≤ X.length ∧ (∀ t ∈ (X.map Prod.snd).take j, ¬ (n ∈ t.names ∧ ofPr pr t)) ∧ Ext w w') (fun j => X.length - j) 0 (.cons rfl (.cons rfl (.cons rfl (.cons rfl (.cons rfl (.cons rfl (.nil _))))))) ⟨Nat.zero_le _, (fun t h => by simp at h), hE0⟩ ?_
  clear hE0
  rintro i w0 ⟨hi, hT, hE0⟩
  have hX0 := hX.ext hE0
  by_cases hlt : i < X.length
  · obtain ⟨x, hx⟩ : ∃ x, X[i]? = some x := ⟨_, List.getElem?_eq_getElem hlt⟩
    obtain ⟨u, s⟩ := x
    obtain ⟨d, rfl, hrow⟩ := sv_row hX0 hx
    obtain ⟨hnm, hnl⟩ := hX0.2 _ (List.mem_of_getElem? hx)
    have hD : (X.map Prod.snd)[i]? = some s := by simp [hx]
    simp only at hnm hnl
    have hnm' := hnm
    obtain ⟨ua, uc, rfl, -, -, -⟩ := hnm'
    have hE1 := Ext.refl w0
    have hE2 : Ext w w0 := hE0
    by_cases hm : n ∈ s.names
    · have hmd : decide (n ∈ s.names) = true := decide_eq_true hm
      by_cases hp : ofPr pr s
      · rw [find_hit hT hD ⟨hm, hp⟩]
        by_cases h0 : pr = 0
        · refine Cd.seq ?_
          refine Cd.seq ?_
          refine Cd.region ?_
          refine Seg.step rfl rfl (Yd.move rfl) ?_
          refine Seg.step rfl rfl (Yd.move rfl) ?_
          refine Seg.step rfl rfl (Yd.lenS rfl rfl) ?_
          refine Seg.step rfl rfl (Yd.lss rfl rfl) ?_
          refine Seg.nil ?_
          refine At.then_ ?_
          refine Cd.condk rfl (fun h12 => ?_) (fun h12 => ?_)
          · refine Cd.skip ?_
            refine At.then_ ?_
            refine Cd.seq ?_
            refine Cd.block ?_
            refine Cd.seq ?_
            refine Cd.region ?_
            refine Seg.step rfl rfl (Yd.move rfl) ?_
            refine Seg.step rfl rfl (Yd.move rfl) ?_
            refine Seg.step rfl rfl (Yd.indexAddr rfl rfl rfl (NatOf.cast _) (by omega)) ?_
            refine Seg.step rfl rfl (Yd.fieldAddr rfl rfl) ?_
            refine Seg.step rfl rfl (Yd.load1 rfl rfl (hrow _ _ rfl)) ?_
            refine Seg.step rfl rfl (Yd.move rfl) ?_
            (refine Seg.call rfl rfl (own_of rfl) rfl (has_any s.names n _ _ (hnm.ext hE1) hnl) ?_; rw [hmd]; rintro _ w26 ⟨rfl, hE26⟩)
            replace hE0 := Ext.trans hE0 hE26
            replace hX0 := hX0.ext hE26
            replace hrow := hrow.ext hE26
            replace hE1 := Ext.trans hE1 hE26
            replace hE2 := Ext.trans hE2 hE26
            refine Seg.step rfl rfl (Yd.move rfl) ?_
            refine Seg.step rfl rfl (Yd.move rfl) ?_
            refine Seg.step rfl rfl (Yd.eql rfl rfl) ?_
            refine Seg.step rfl rfl (Yd.move rfl) ?_
            refine Seg.gsplitp rfl rfl (fun h31 => ?_) (fun h31 => ?_)
            · refine Seg.skip rfl rfl ?_
              refine Seg.skip rfl rfl ?_
              refine Seg.skip rfl rfl ?_
              refine Seg.skip rfl rfl ?_
              refine Seg.skip rfl rfl ?_
              refine Seg.skip rfl rfl ?_
              refine Seg.skip rfl rfl ?_
              refine Seg.step rfl rfl (Yd.pickT rfl rfl) ?_
              refine Seg.step rfl rfl (Yd.pickT rfl rfl) ?_
              refine Seg.nil ?_
              refine At.then_ ?_
              refine Cd.condT rfl ?_
              refine Cd.seq ?_
              refine Cd.region ?_
              refine Seg.step rfl rfl (Yd.move rfl) ?_
              refine Seg.step rfl rfl (Yd.move rfl) ?_
              refine Seg.step rfl rfl (Yd.indexAddr rfl rfl rfl (NatOf.cast _) (by omega)) ?_
              refine Seg.step rfl rfl (Yd.fieldAddr rfl rfl) ?_
              refine Seg.step rfl rfl (Yd.load1 rfl rfl (hrow _ _ rfl)) ?_
              refine Seg.step rfl rfl (Yd.assign rfl) ?_
              refine Seg.step rfl rfl (Yd.assign rfl) ?_
              refine Seg.nil ?_
              refine At.then_ ?_
              refine Cd.ret ?_
              refine At.blk_ret ?_
              refine At.then_ret ?_
              refine At.then_ret ?_
              refine At.blk_ret ?_
              refine At.then_ret ?_
              exact At.ret Try.results15 (.tmp rfl (.tmp rfl .nil)) ⟨rfl, by assumption⟩
            · exfalso; omega
          · exfalso; omega
        · have h1 : s.proto = pr := hp.resolve_left h0
          refine Cd.seq ?_
          refine Cd.seq ?_
          refine Cd.region ?_
          refine Seg.step rfl rfl (Yd.move rfl) ?_
          refine Seg.step rfl rfl (Yd.move rfl) ?_
          refine Seg.step rfl rfl (Yd.lenS rfl rfl) ?_
          refine Seg.step rfl rfl (Yd.lss rfl rfl) ?_
          refine Seg.nil ?_
          refine At.then_ ?_
          refine Cd.condk rfl (fun h12 => ?_) (fun h12 => ?_)
          · refine Cd.skip ?_
            refine At.then_ ?_
            refine Cd.seq ?_
            refine Cd.block ?_
            refine Cd.seq ?_
            refine Cd.region ?_
            refine Seg.step rfl rfl (Yd.move rfl) ?_
            refine Seg.step rfl rfl (Yd.move rfl) ?_
            refine Seg.step rfl rfl (Yd.indexAddr rfl rfl rfl (NatOf.cast _) (by omega)) ?_
            refine Seg.step rfl rfl (Yd.fieldAddr rfl rfl) ?_
            refine Seg.step rfl rfl (Yd.load1 rfl rfl (hrow _ _ rfl)) ?_
            refine Seg.step rfl rfl (Yd.move rfl) ?_
            (refine Seg.call rfl rfl (own_of rfl) rfl (has_any s.names n _ _ (hnm.ext hE1) hnl) ?_; rw [hmd]; rintro _ w26 ⟨rfl, hE26⟩)
            replace hE0 := Ext.trans hE0 hE26
            replace hX0 := hX0.ext hE26
            replace hrow := hrow.ext hE26
            replace hE1 := Ext.trans hE1 hE26
            replace hE2 := Ext.trans hE2 hE26
            refine Seg.step rfl rfl (Yd.move rfl) ?_
            refine Seg.step rfl rfl (Yd.move rfl) ?_
            refine Seg.step rfl rfl (Yd.eql rfl rfl) ?_
            refine Seg.step rfl rfl (Yd.move rfl) ?_
            refine Seg.gsplitp rfl rfl (fun h31 => ?_) (fun h31 => ?_)
            · exfalso; omega
            · refine Seg.step rfl rfl (Yd.move rfl) ?_
              refine Seg.step rfl rfl (Yd.move rfl) ?_
              refine Seg.step rfl rfl (Yd.indexAddr rfl rfl rfl (NatOf.cast _) (by omega)) ?_
              refine Seg.step rfl rfl (Yd.fieldAddr rfl rfl) ?_
              refine Seg.step rfl rfl (Yd.load1 rfl rfl (hrow _ _ rfl)) ?_
              refine Seg.step rfl rfl (Yd.move rfl) ?_
              refine Seg.step rfl rfl (Yd.eql rfl rfl) ?_
              refine Seg.step rfl rfl (Yd.pickF rfl rfl) ?_
              refine Seg.step rfl rfl (Yd.pickT rfl rfl) ?_
              refine Seg.nil ?_
              refine At.then_ ?_
              refine Cd.condk rfl (fun h44 => ?_) (fun h44 => ?_)
              · refine Cd.seq ?_
                refine Cd.region ?_
                refine Seg.step rfl rfl (Yd.move rfl) ?_
                refine Seg.step rfl rfl (Yd.move rfl) ?_
                refine Seg.step rfl rfl (Yd.indexAddr rfl rfl rfl (NatOf.cast _) (by omega)) ?_
                refine Seg.step rfl rfl (Yd.fieldAddr rfl rfl) ?_
                refine Seg.step rfl rfl (Yd.load1 rfl rfl (hrow _ _ rfl)) ?_
                refine Seg.step rfl rfl (Yd.assign rfl) ?_
                refine Seg.step rfl rfl (Yd.assign rfl) ?_
                refine Seg.nil ?_
                refine At.then_ ?_
                refine Cd.ret ?_
                refine At.blk_ret ?_
                refine At.then_ret ?_
                refine At.then_ret ?_
                refine At.blk_ret ?_
                refine At.then_ret ?_
                exact At.ret Try.results15 (.tmp rfl (.tmp rfl .nil)) ⟨rfl, by assumption⟩
              · contradiction
          · exfalso; omega
      · have h0 : ¬ pr = 0 := fun h => hp (.inl h)
        have h1 : ¬ s.proto = pr := fun h => hp (.inr h)
        refine Cd.seq ?_
        refine Cd.seq ?_
        refine Cd.region ?_
        refine Seg.step rfl rfl (Yd.move rfl) ?_
        refine Seg.step rfl rfl (Yd.move rfl) ?_
        refine Seg.step rfl rfl (Yd.lenS rfl rfl) ?_
        refine Seg.step rfl rfl (Yd.lss rfl rfl) ?_
        refine Seg.nil ?_
        refine At.then_ ?_
        refine Cd.condk rfl (fun h12 => ?_) (fun h12 => ?_)
        · refine Cd.skip ?_
          refine At.then_ ?_
          refine Cd.seq ?_
          refine Cd.block ?_
          refine Cd.seq ?_
          refine Cd.region ?_
          refine Seg.step rfl rfl (Yd.move rfl) ?_
          refine Seg.step rfl rfl (Yd.move rfl) ?_
          refine Seg.step rfl rfl (Yd.indexAddr rfl rfl rfl (NatOf.cast _) (by omega)) ?_
          refine Seg.step rfl rfl (Yd.fieldAddr rfl rfl) ?_
          refine Seg.step rfl rfl (Yd.load1 rfl rfl (hrow _ _ rfl)) ?_
          refine Seg.step rfl rfl (Yd.move rfl) ?_
          (refine Seg.call rfl rfl (own_of rfl) rfl (has_any s.names n _ _ (hnm.ext hE1) hnl) ?_; rw [hmd]; rintro _ w26 ⟨rfl, hE26⟩)
          replace hE0 := Ext.trans hE0 hE26
          replace hX0 := hX0.ext hE26
          replace hrow := hrow.ext hE26
          replace hE1 := Ext.trans hE1 hE26
          replace hE2 := Ext.trans hE2 hE26
          refine Seg.step rfl rfl (Yd.move rfl) ?_
          refine Seg.step rfl rfl (Yd.move rfl) ?_
          refine Seg.step rfl rfl (Yd.eql rfl rfl) ?_
          refine Seg.step rfl rfl (Yd.move rfl) ?_
          refine Seg.gsplitp rfl rfl (fun h31 => ?_) (fun h31 => ?_)
          · exfalso; omega
          · refine Seg.step rfl rfl (Yd.move rfl) ?_
            refine Seg.step rfl rfl (Yd.move rfl) ?_
            refine Seg.step rfl rfl (Yd.indexAddr rfl rfl rfl (NatOf.cast _) (by omega)) ?_
            refine Seg.step rfl rfl (Yd.fieldAddr rfl rfl) ?_
            refine Seg.step rfl rfl (Yd.load1 rfl rfl (hrow _ _ rfl)) ?_
            refine Seg.step rfl rfl (Yd.move rfl) ?_
            refine Seg.step rfl rfl (Yd.eql rfl rfl) ?_
            refine Seg.step rfl rfl (Yd.pickF rfl rfl) ?_
            refine Seg.step rfl rfl (Yd.pickT rfl rfl) ?_
            refine Seg.nil ?_
            refine At.then_ ?_
            refine Cd.condk rfl (fun h44 => ?_) (fun h44 => ?_)
            · contradiction
            · refine Cd.skip ?_
              refine At.blk ?_
              refine At.then_ ?_
              refine Cd.region ?_
              refine Seg.step rfl rfl (Yd.move rfl) ?_
              refine Seg.step rfl rfl (Yd.addI rfl rfl (by omega)) ?_
              refine Seg.step rfl rfl (Yd.assign rfl) ?_
              refine Seg.nil ?_
              exact At.round (i + 1) (.cons rfl (.cons rfl (.cons rfl (.cons rfl (.cons rfl (.cons rfl (.nil _))))))) ⟨hlt, take_all hT hD (fun h => hp h.2), by assumption⟩ (Nat.sub_lt_sub_left hlt (Nat.lt_succ_self i))
        · exfalso; omega
    · have hmd : decide (n ∈ s.names) = false := decide_eq_false hm
      refine Cd.seq ?_
      refine Cd.seq ?_
      refine Cd.region ?_
      refine Seg.step rfl rfl (Yd.move rfl) ?_
      refine Seg.step rfl rfl (Yd.move rfl) ?_
      refine Seg.step rfl rfl (Yd.lenS rfl rfl) ?_
      refine Seg.step rfl rfl (Yd.lss rfl rfl) ?_
      refine Seg.nil ?_
      refine At.then_ ?_
      refine Cd.condk rfl (fun h12 => ?_) (fun h12 => ?_)
      · refine Cd.skip ?_
        refine At.then_ ?_
        refine Cd.seq ?_
        refine Cd.block ?_
        refine Cd.seq ?_
        refine Cd.region ?_
        refine Seg.step rfl rfl (Yd.move rfl) ?_
        refine Seg.step rfl rfl (Yd.move rfl) ?_
        refine Seg.step rfl rfl (Yd.indexAddr rfl rfl rfl (NatOf.cast _) (by omega)) ?_
        refine Seg.step rfl rfl (Yd.fieldAddr rfl rfl) ?_
        refine Seg.step rfl rfl (Yd.load1 rfl rfl (hrow _ _ rfl)) ?_
        refine Seg.step rfl rfl (Yd.move rfl) ?_
        (refine Seg.call rfl rfl (own_of rfl) rfl (has_any s.names n _ _ (hnm.ext hE1) hnl) ?_; rw [hmd]; rintro _ w26 ⟨rfl, hE26⟩)
        replace hE0 := Ext.trans hE0 hE26
        replace hX0 := hX0.ext hE26
        replace hrow := hrow.ext hE26
        replace hE1 := Ext.trans hE1 hE26
        replace hE2 := Ext.trans hE2 hE26
        refine Seg.step rfl rfl (Yd.move rfl) ?_
        refine Seg.skip rfl rfl ?_
        refine Seg.skip rfl rfl ?_
        refine Seg.skip rfl rfl ?_
        refine Seg.skip rfl rfl ?_
        refine Seg.skip rfl rfl ?_
        refine Seg.skip rfl rfl ?_
        refine Seg.skip rfl rfl ?_
        refine Seg.skip rfl rfl ?_
        refine Seg.skip rfl rfl ?_
        refine Seg.skip rfl rfl ?_
        refine Seg.skip rfl rfl ?_
        refine Seg.step rfl rfl (Yd.pickF rfl rfl) ?_
        refine Seg.nil ?_
        refine At.then_ ?_
        refine Cd.condF rfl ?_
        refine Cd.skip ?_
        refine At.blk ?_
        refine At.then_ ?_
        refine Cd.region ?_
        refine Seg.step rfl rfl (Yd.move rfl) ?_
        refine Seg.step rfl rfl (Yd.addI rfl rfl (by omega)) ?_
        refine Seg.step rfl rfl (Yd.assign rfl) ?_
        refine Seg.nil ?_
        exact At.round (i + 1) (.cons rfl (.cons rfl (.cons rfl (.cons rfl (.cons rfl (.cons rfl (.nil _))))))) ⟨hlt, take_all hT hD (fun h => hm h.1), by assumption⟩ (Nat.sub_lt_sub_left hlt (Nat.lt_succ_self i))
      · exfalso; omega
  · rw [find_end hT (by simp; omega)]
    refine Cd.seq ?_
    refine Cd.seq ?_
    refine Cd.region ?_
    refine Seg.step rfl rfl (Yd.move rfl) ?_
    refine Seg.step rfl rfl (Yd.move rfl) ?_
    refine Seg.step rfl rfl (Yd.lenS rfl rfl) ?_
    refine Seg.step rfl rfl (Yd.lss rfl rfl) ?_
    refine Seg.nil ?_
    refine At.then_ ?_
    refine Cd.condk rfl (fun h10 => ?_) (fun h10 => ?_)
    · exfalso; omega
    · refine Cd.exit ?_
      refine At.then_exit ?_
      refine At.then_exit ?_
      refine At.blk_same ?_
      refine At.then_ ?_
      refine Cd.seq ?_
      refine Cd.region ?_
      refine Seg.step rfl rfl (Yd.assign rfl) ?_
      refine Seg.step rfl rfl (Yd.assign rfl) ?_
      refine Seg.nil ?_
      refine At.then_ ?_
      refine Cd.ret ?_
      exact At.ret Try.results15 (.tmp rfl (.tmp rfl .nil)) ⟨rfl, by assumption⟩
theorem name_any (X : List Sv) (po pr : Int) (v : Value) (w : World) (h : SvAt w v X) (hl : X.length ≤ 1000000) : Ret Try.prog 16 #[v, .int .i64 po, .int .i64 pr] w fun r w' => r = .tuple #[.string ⟨(nameB po pr (X.map Prod.snd)).1.toArray⟩, .bool (nameB po pr (X.map Prod.snd)).2] ∧ Ext w w' := by
  have hE0 := Ext.refl w
  have hX := h
  obtain ⟨⟨ao, c, rfl, -, -, -⟩, hn⟩ := h
  refine Ret.body Try.func16 rfl Try.ntmps16 rfl ?_
  refine Cd.seq ?_
  refine Cd.region ?_
  refine Seg.step rfl rfl (Yd.assign rfl) ?_
  refine Seg.step rfl rfl (Yd.assign rfl) ?_
  refine Seg.nil ?_
  refine At.then_ ?_
  refine Cd.seq ?_
  refine Cd.seq ?_
  refine Cd.region ?_
  refine Seg.step rfl rfl (Yd.move rfl) ?_
  refine Seg.step rfl rfl (Yd.lenS rfl rfl) ?_
  refine Seg.step rfl rfl (Yd.move rfl) ?_
  refine Seg.nil ?_
  refine At.then_ ?_
  refine Cd.block ?_
  refine Cd.loop (σ := Nat) (fun j => [(0, .slice ao X.length c), (1, .int .i64 po), (2, .int .i64 pr), (6, .string ⟨#[]⟩), (7, .bool false), (10, .slice ao X.length c), (11, .int .i64 (X.length : Int)), (12, .int .i64 (j : Int))])
    (fun j w' => j ≤ X.length ∧ (∀ t ∈ (X.map Prod.snd).take j, ¬ (t.names ≠ [] ∧ t.port = po ∧ ofPr pr t)) ∧ Ext w w') (fun j => X.length - j) 0 (.cons rfl (.cons rfl (.cons rfl (.cons rfl (.cons rfl (.cons rfl (.cons rfl (.cons rfl (.nil _))))))))) ⟨Nat.zero_le _, (fun t h => by simp at h), hE0⟩ ?_
  clear hE0
  rintro i w0 ⟨hi, hT, hE0⟩
  have hX0 := hX.ext hE0
  by_cases hlt : i < X.length
  · obtain ⟨x, hx⟩ : ∃ x, X[i]? = some x := ⟨_, List.getElem?_eq_getElem hlt⟩
    obtain ⟨u, s⟩ := x
    obtain ⟨d, rfl, hrow⟩ := sv_row hX0 hx
    obtain ⟨hnm, hnl⟩ := hX0.2 _ (List.mem_of_getElem? hx)
    have hD : (X.map Prod.snd)[i]? = some s := by simp [hx]
    simp only at hnm hnl
    have hnm' := hnm
    obtain ⟨ua, uc, rfl, -, -, -⟩ := hnm'
    have hE1 := Ext.refl w0
    have hE2 : Ext w w0 := hE0
    by_cases hne : s.names = []
    · have hl0 : s.names.length = 0 := by rw [hne]; rfl
      refine Cd.seq ?_
      refine Cd.region ?_
      refine Seg.step rfl rfl (Yd.lss rfl rfl) ?_
      refine Seg.nil ?_
      refine At.then_ ?_
      refine Cd.seq ?_
      refine Cd.condk rfl (fun h9 => ?_) (fun h9 => ?_)
      · refine Cd.skip ?_
        refine At.then_ ?_
        refine Cd.seq ?_
        refine Cd.block ?_
        refine Cd.seq ?_
        refine Cd.region ?_
        refine Seg.step rfl rfl (Yd.indexAddr rfl rfl rfl (NatOf.cast _) (by omega)) ?_
        refine Seg.step rfl rfl (Yd.loadN rfl rfl rfl hrow) ?_
        refine Seg.alloc rfl rfl rfl (fun w19 b19 hE19 hB19 hb19 => ?_)
        have hlt19_0 := Nat.le_trans hE0.size hb19
        have hlt19_1 := Nat.le_trans hE1.size hb19
        have hlt19_2 := Nat.le_trans hE2.size hb19
        replace hE0 := Ext.trans hE0 hE19
        replace hX0 := hX0.ext hE19
        replace hrow := hrow.ext hE19
        replace hE1 := Ext.trans hE1 hE19
        replace hE2 := Ext.trans hE2 hE19
        refine Seg.storeN rfl rfl rfl rfl hB19 rfl (by first | assumption | exact List.all_eq_true.1 rfl) (fun w20 hW20 hB20 => ?_)
        clear hB19
        replace hE19 := Ext.wr' hE19 hW20 (by omega)
        replace hE0 := Ext.wr' hE0 hW20 (by omega)
        replace hE1 := Ext.wr' hE1 hW20 (by omega)
        replace hE2 := Ext.wr' hE2 hW20 (by omega)
        refine Seg.nil ?_
        refine At.then_ ?_
        refine Cd.seq ?_
        refine Cd.region ?_
        refine Seg.step rfl rfl (Yd.fieldAddr rfl rfl) ?_
        refine Seg.step rfl rfl (Yd.load1 rfl rfl (hB20.row _ _ rfl)) ?_
        refine Seg.step rfl rfl (Yd.lenS rfl rfl) ?_
        refine Seg.step rfl rfl (Yd.gtr rfl rfl) ?_
        refine Seg.step rfl rfl (Yd.move rfl) ?_
        refine Seg.gsplitp rfl rfl (fun h30 => ?_) (fun h30 => ?_)
        · exfalso; omega
        · refine Seg.skip rfl rfl ?_
          refine Seg.skip rfl rfl ?_
          refine Seg.skip rfl rfl ?_
          refine Seg.skip rfl rfl ?_
          refine Seg.step rfl rfl (Yd.pickF rfl rfl) ?_
          refine Seg.step rfl rfl (Yd.move rfl) ?_
          refine Seg.skip rfl rfl ?_
          refine Seg.skip rfl rfl ?_
          refine Seg.skip rfl rfl ?_
          refine Seg.step rfl rfl (Yd.pickF rfl rfl) ?_
          refine Seg.nil ?_
          refine At.then_ ?_
          refine Cd.condF rfl ?_
          refine Cd.skip ?_
          refine At.blk ?_
          refine At.then_ ?_
          refine Cd.region ?_
          refine Seg.step rfl rfl (Yd.addI rfl rfl (by omega)) ?_
          refine Seg.step rfl rfl (Yd.move rfl) ?_
          refine Seg.nil ?_
          exact At.round (i + 1) (.cons rfl (.cons rfl (.cons rfl (.cons rfl (.cons rfl (.cons rfl (.cons rfl (.cons rfl (.nil _))))))))) ⟨hlt, take_all hT hD (fun h => h.1 hne), by assumption⟩ (Nat.sub_lt_sub_left hlt (Nat.lt_succ_self i))
      · exfalso; omega
    · have hl0 : 0 < s.names.length := List.length_pos_iff.2 hne
      obtain ⟨ua', rfl, hnr⟩ : ∃ a, ua = some a ∧ Row w0 a (strV s.names) := by
        obtain ⟨a', c', e, _, hr, hz⟩ := hnm
        cases e
        cases ua with
        | none => have := hz rfl; omega
        | some a => exact ⟨a, rfl, hr a rfl⟩
      have hnk : Keep (Row w0 ua' (strV s.names)) := hnr
      have hn0 : (strV s.names)[0]? = some (.string ⟨(s.names.headD []).toArray⟩) := by
        cases hs : s.names with
        | nil => exact absurd hs hne
        | cons a l => rfl
      by_cases hpo : s.port = po
      · by_cases hp : ofPr pr s
        · rw [name_hit hT hD ⟨hne, hpo, hp⟩]
          have hpd : decide (ofPr pr s) = true := decide_eq_true hp
          refine Cd.seq ?_
          refine Cd.region ?_
          refine Seg.step rfl rfl (Yd.lss rfl rfl) ?_
          refine Seg.nil ?_
          refine At.then_ ?_
          refine Cd.seq ?_
          refine Cd.condk rfl (fun h9 => ?_) (fun h9 => ?_)
          · refine Cd.skip ?_
            refine At.then_ ?_
            refine Cd.seq ?_
            refine Cd.block ?_
            refine Cd.seq ?_
            refine Cd.region ?_
            refine Seg.step rfl rfl (Yd.indexAddr rfl rfl rfl (NatOf.cast _) (by omega)) ?_
            refine Seg.step rfl rfl (Yd.loadN rfl rfl rfl hrow) ?_
            refine Seg.alloc rfl rfl rfl (fun w19 b19 hE19 hB19 hb19 => ?_)
            have hlt19_0 := Nat.le_trans hE0.size hb19
            have hlt19_1 := Nat.le_trans hE1.size hb19
            have hlt19_2 := Nat.le_trans hE2.size hb19
            replace hE0 := Ext.trans hE0 hE19
            replace hX0 := hX0.ext hE19
            replace hE1 := Ext.trans hE1 hE19
            replace hE2 := Ext.trans hE2 hE19
            replace hnr := hnr.ext hE19
            replace hrow := hrow.ext hE19
            refine Seg.storeN rfl rfl rfl rfl hB19 rfl (by first | assumption | exact List.all_eq_true.1 rfl) (fun w20 hW20 hB20 => ?_)
            clear hB19
            replace hE19 := Ext.wr' hE19 hW20 (by omega)
            replace hE0 := Ext.wr' hE0 hW20 (by omega)
            replace hE1 := Ext.wr' hE1 hW20 (by omega)
            replace hE2 := Ext.wr' hE2 hW20 (by omega)
            refine Seg.nil ?_
            refine At.then_ ?_
            refine Cd.seq ?_
            refine Cd.region ?_
            refine Seg.step rfl rfl (Yd.fieldAddr rfl rfl) ?_
            refine Seg.step rfl rfl (Yd.load1 rfl rfl (hB20.row _ _ rfl)) ?_
            refine Seg.step rfl rfl (Yd.lenS rfl rfl) ?_
            refine Seg.step rfl rfl (Yd.gtr rfl rfl) ?_
            refine Seg.step rfl rfl (Yd.move rfl) ?_
            refine Seg.gsplitp rfl rfl (fun h30 => ?_) (fun h30 => ?_)
            · refine Seg.step rfl rfl (Yd.fieldAddr rfl rfl) ?_
              refine Seg.step rfl rfl (Yd.load1 rfl rfl (hB20.row _ _ rfl)) ?_
              refine Seg.step rfl rfl (Yd.move rfl) ?_
              refine Seg.step rfl rfl (Yd.eql rfl rfl) ?_
              refine Seg.step rfl rfl (Yd.pickT rfl rfl) ?_
              refine Seg.step rfl rfl (Yd.move rfl) ?_
              refine Seg.gsplitp rfl rfl (fun h38 => ?_) (fun h38 => ?_)
              · refine Seg.step rfl rfl (Yd.loadN rfl rfl rfl hB20.row) ?_
                refine Seg.step rfl rfl (Yd.move rfl) ?_
                (refine Seg.call rfl rfl (own_of rfl) rfl (is_any (.slice (some ua') s.names.length uc) s pr _) ?_; rw [hpd]; rintro _ w42 ⟨rfl, hE42⟩)
                replace hW20 := Wr.trans hW20 (Ext.wr hE42 _)
                replace hB20 := hB20.ext hE42
                replace hE19 := Ext.trans hE19 hE42
                replace hE0 := Ext.trans hE0 hE42
                replace hE1 := Ext.trans hE1 hE42
                replace hE2 := Ext.trans hE2 hE42
                refine Seg.step rfl rfl (Yd.pickT rfl rfl) ?_
                refine Seg.nil ?_
                refine At.then_ ?_
                refine Cd.condT rfl ?_
                refine Cd.seq ?_
                refine Cd.region ?_
                refine Seg.step rfl rfl (Yd.fieldAddr rfl rfl) ?_
                refine Seg.step rfl rfl (Yd.load1 rfl rfl (hB20.row _ _ rfl)) ?_
                refine Seg.step rfl rfl (Yd.indexAddr1 rfl rfl rfl (NatOf.cast 0) (by omega)) ?_
                refine Seg.step rfl rfl (Yd.load1 rfl rfl ((Row.ext hnk hE1) _ _ hn0)) ?_
                refine Seg.step rfl rfl (Yd.assign rfl) ?_
                refine Seg.step rfl rfl (Yd.assign rfl) ?_
                refine Seg.nil ?_
                refine At.then_ ?_
                refine Cd.ret ?_
                refine At.blk_ret ?_
                refine At.then_ret ?_
                refine At.then_ret ?_
                refine At.blk_ret ?_
                refine At.then_ret ?_
                exact At.ret Try.results16 (.tmp rfl (.tmp rfl .nil)) ⟨rfl, by assumption⟩
              · contradiction
            · exfalso; omega
          · exfalso; omega
        · have h0 : ¬ pr = 0 := fun h => hp (.inl h)
          have h1 : ¬ s.proto = pr := fun h => hp (.inr h)
          have hpd : decide (ofPr pr s) = false := decide_eq_false hp
          refine Cd.seq ?_
          refine Cd.region ?_
          refine Seg.step rfl rfl (Yd.lss rfl rfl) ?_
          refine Seg.nil ?_
          refine At.then_ ?_
          refine Cd.seq ?_
          refine Cd.condk rfl (fun h9 => ?_) (fun h9 => ?_)
          · refine Cd.skip ?_
            refine At.then_ ?_
            refine Cd.seq ?_
            refine Cd.block ?_
            refine Cd.seq ?_
            refine Cd.region ?_
            refine Seg.step rfl rfl (Yd.indexAddr rfl rfl rfl (NatOf.cast _) (by omega)) ?_
            refine Seg.step rfl rfl (Yd.loadN rfl rfl rfl hrow) ?_
            refine Seg.alloc rfl rfl rfl (fun w19 b19 hE19 hB19 hb19 => ?_)
            have hlt19_0 := Nat.le_trans hE0.size hb19
            have hlt19_1 := Nat.le_trans hE1.size hb19
            have hlt19_2 := Nat.le_trans hE2.size hb19
            replace hE0 := Ext.trans hE0 hE19
            replace hX0 := hX0.ext hE19
            replace hE1 := Ext.trans hE1 hE19
            replace hE2 := Ext.trans hE2 hE19
            replace hnr := hnr.ext hE19
            replace hrow := hrow.ext hE19
            refine Seg.storeN rfl rfl rfl rfl hB19 rfl (by first | assumption | exact List.all_eq_true.1 rfl) (fun w20 hW20 hB20 => ?_)
            clear hB19
            replace hE19 := Ext.wr' hE19 hW20 (by omega)
            replace hE0 := Ext.wr' hE0 hW20 (by omega)
            replace hE1 := Ext.wr' hE1 hW20 (by omega)
            replace hE2 := Ext.wr' hE2 hW20 (by omega)
            refine Seg.nil ?_
            refine At.then_ ?_
            refine Cd.seq ?_
            refine Cd.region ?_
            refine Seg.step rfl rfl (Yd.fieldAddr rfl rfl) ?_
            refine Seg.step rfl rfl (Yd.load1 rfl rfl (hB20.row _ _ rfl)) ?_
            refine Seg.step rfl rfl (Yd.lenS rfl rfl) ?_
            refine Seg.step rfl rfl (Yd.gtr rfl rfl) ?_
            refine Seg.step rfl rfl (Yd.move rfl) ?_
            refine Seg.gsplitp rfl rfl (fun h30 => ?_) (fun h30 => ?_)
            · refine Seg.step rfl rfl (Yd.fieldAddr rfl rfl) ?_
              refine Seg.step rfl rfl (Yd.load1 rfl rfl (hB20.row _ _ rfl)) ?_
              refine Seg.step rfl rfl (Yd.move rfl) ?_
              refine Seg.step rfl rfl (Yd.eql rfl rfl) ?_
              refine Seg.step rfl rfl (Yd.pickT rfl rfl) ?_
              refine Seg.step rfl rfl (Yd.move rfl) ?_
              refine Seg.gsplitp rfl rfl (fun h38 => ?_) (fun h38 => ?_)
              · refine Seg.step rfl rfl (Yd.loadN rfl rfl rfl hB20.row) ?_
                refine Seg.step rfl rfl (Yd.move rfl) ?_
                (refine Seg.call rfl rfl (own_of rfl) rfl (is_any (.slice (some ua') s.names.length uc) s pr _) ?_; rw [hpd]; rintro _ w42 ⟨rfl, hE42⟩)
                replace hW20 := Wr.trans hW20 (Ext.wr hE42 _)
                replace hB20 := hB20.ext hE42
                replace hE19 := Ext.trans hE19 hE42
                replace hE0 := Ext.trans hE0 hE42
                replace hE1 := Ext.trans hE1 hE42
                replace hE2 := Ext.trans hE2 hE42
                refine Seg.step rfl rfl (Yd.pickT rfl rfl) ?_
                refine Seg.nil ?_
                refine At.then_ ?_
                refine Cd.condF rfl ?_
                refine Cd.skip ?_
                refine At.blk ?_
                refine At.then_ ?_
                refine Cd.region ?_
                refine Seg.step rfl rfl (Yd.addI rfl rfl (by omega)) ?_
                refine Seg.step rfl rfl (Yd.move rfl) ?_
                refine Seg.nil ?_
                exact At.round (i + 1) (.cons rfl (.cons rfl (.cons rfl (.cons rfl (.cons rfl (.cons rfl (.cons rfl (.cons rfl (.nil _))))))))) ⟨hlt, take_all hT hD (fun h => hp h.2.2), by assumption⟩ (Nat.sub_lt_sub_left hlt (Nat.lt_succ_self i))
              · contradiction
            · exfalso; omega
          · exfalso; omega
      · refine Cd.seq ?_
        refine Cd.region ?_
        refine Seg.step rfl rfl (Yd.lss rfl rfl) ?_
        refine Seg.nil ?_
        refine At.then_ ?_
        refine Cd.seq ?_
        refine Cd.condk rfl (fun h9 => ?_) (fun h9 => ?_)
        · refine Cd.skip ?_
          refine At.then_ ?_
          refine Cd.seq ?_
          refine Cd.block ?_
          refine Cd.seq ?_
          refine Cd.region ?_
          refine Seg.step rfl rfl (Yd.indexAddr rfl rfl rfl (NatOf.cast _) (by omega)) ?_
          refine Seg.step rfl rfl (Yd.loadN rfl rfl rfl hrow) ?_
          refine Seg.alloc rfl rfl rfl (fun w19 b19 hE19 hB19 hb19 => ?_)
          have hlt19_0 := Nat.le_trans hE0.size hb19
          have hlt19_1 := Nat.le_trans hE1.size hb19
          have hlt19_2 := Nat.le_trans hE2.size hb19
          replace hE0 := Ext.trans hE0 hE19
          replace hX0 := hX0.ext hE19
          replace hE1 := Ext.trans hE1 hE19
          replace hE2 := Ext.trans hE2 hE19
          replace hnr := hnr.ext hE19
          replace hrow := hrow.ext hE19
          refine Seg.storeN rfl rfl rfl rfl hB19 rfl (by first | assumption | exact List.all_eq_true.1 rfl) (fun w20 hW20 hB20 => ?_)
          clear hB19
          replace hE19 := Ext.wr' hE19 hW20 (by omega)
          replace hE0 := Ext.wr' hE0 hW20 (by omega)
          replace hE1 := Ext.wr' hE1 hW20 (by omega)
          replace hE2 := Ext.wr' hE2 hW20 (by omega)
          refine Seg.nil ?_
          refine At.then_ ?_
          refine Cd.seq ?_
          refine Cd.region ?_
          refine Seg.step rfl rfl (Yd.fieldAddr rfl rfl) ?_
          refine Seg.step rfl rfl (Yd.load1 rfl rfl (hB20.row _ _ rfl)) ?_
          refine Seg.step rfl rfl (Yd.lenS rfl rfl) ?_
          refine Seg.step rfl rfl (Yd.gtr rfl rfl) ?_
          refine Seg.step rfl rfl (Yd.move rfl) ?_
          refine Seg.gsplitp rfl rfl (fun h30 => ?_) (fun h30 => ?_)
          · refine Seg.step rfl rfl (Yd.fieldAddr rfl rfl) ?_
            refine Seg.step rfl rfl (Yd.load1 rfl rfl (hB20.row _ _ rfl)) ?_
            refine Seg.step rfl rfl (Yd.move rfl) ?_
            refine Seg.step rfl rfl (Yd.eql rfl rfl) ?_
            refine Seg.step rfl rfl (Yd.pickT rfl rfl) ?_
            refine Seg.step rfl rfl (Yd.move rfl) ?_
            refine Seg.gsplitp rfl rfl (fun h38 => ?_) (fun h38 => ?_)
            · contradiction
            · refine Seg.skip rfl rfl ?_
              refine Seg.skip rfl rfl ?_
              refine Seg.skip rfl rfl ?_
              refine Seg.step rfl rfl (Yd.pickF rfl rfl) ?_
              refine Seg.nil ?_
              refine At.then_ ?_
              refine Cd.condF rfl ?_
              refine Cd.skip ?_
              refine At.blk ?_
              refine At.then_ ?_
              refine Cd.region ?_
              refine Seg.step rfl rfl (Yd.addI rfl rfl (by omega)) ?_
              refine Seg.step rfl rfl (Yd.move rfl) ?_
              refine Seg.nil ?_
              exact At.round (i + 1) (.cons rfl (.cons rfl (.cons rfl (.cons rfl (.cons rfl (.cons rfl (.cons rfl (.cons rfl (.nil _))))))))) ⟨hlt, take_all hT hD (fun h => hpo h.2.1), by assumption⟩ (Nat.sub_lt_sub_left hlt (Nat.lt_succ_self i))
          · exfalso; omega
        · exfalso; omega
  · rw [name_end hT (by simp; omega)]
    refine Cd.seq ?_
    refine Cd.region ?_
    refine Seg.step rfl rfl (Yd.lss rfl rfl) ?_
    refine Seg.nil ?_
    refine At.then_ ?_
    refine Cd.seq ?_
    refine Cd.condk rfl (fun h7 => ?_) (fun h7 => ?_)
    · exfalso; omega
    · refine Cd.exit ?_
      refine At.then_exit ?_
      refine At.then_exit ?_
      refine At.blk_same ?_
      refine At.then_ ?_
      refine Cd.seq ?_
      refine Cd.region ?_
      refine Seg.step rfl rfl (Yd.assign rfl) ?_
      refine Seg.step rfl rfl (Yd.assign rfl) ?_
      refine Seg.nil ?_
      refine At.then_ ?_
      refine Cd.ret ?_
      exact At.ret Try.results16 (.tmp rfl (.tmp rfl .nil)) ⟨rfl, by assumption⟩
theorem rname_any (X : List Sv) (po pr : Int) (v : Value) (w : World) (h : SvAt w v X) (hl : X.length ≤ 1000000) : Ret Try.prog 17 #[v, .int .i64 po, .int .i64 pr] w fun r w' => r = .tuple #[.string ⟨(nameB po pr (X.map Prod.snd)).1.toArray⟩, .bool (nameB po pr (X.map Prod.snd)).2] ∧ Ext w w' := by
  have hE0 := Ext.refl w
  have hX := h
  obtain ⟨⟨ao, c, rfl, -, -, -⟩, hn⟩ := h
  refine Ret.body Try.func17 rfl Try.ntmps17 rfl ?_
  refine Cd.seq ?_
  refine Cd.region ?_
  refine Seg.step rfl rfl (Yd.assign rfl) ?_
  refine Seg.step rfl rfl (Yd.assign rfl) ?_
  refine Seg.nil ?_
  refine At.then_ ?_
  refine Cd.seq ?_
  refine Cd.seq ?_
  refine Cd.region ?_
  refine Seg.step rfl rfl (Yd.assign rfl) ?_
  refine Seg.nil ?_
  refine At.then_ ?_
  refine Cd.block ?_
  refine Cd.loop (σ := Nat) (fun j => [(0, .slice ao X.length c), (1, .int .i64 po), (2, .int .i64 pr), (6, .string ⟨#[]⟩), (7, .bool false), (8, .int .i64 (j : Int))])
    (fun j w' => j ≤ X.length ∧ (∀ t ∈ (X.map Prod.snd).take j, ¬ (t.names ≠ [] ∧ t.port = po ∧ ofPr pr t)) ∧ Ext w w') (fun j => X.length - j) 0 (.cons rfl (.cons rfl (.cons rfl (.cons rfl (.cons rfl (.cons rfl (.nil _))))))) ⟨Nat.zero_le _, (fun t h => by simp at h), hE0⟩ ?_
  clear hE0
  rintro i w0 ⟨hi, hT, hE0⟩
  have hX0 := hX.ext hE0
  by_cases hlt : i < X.length
  · obtain ⟨x, hx⟩ : ∃ x, X[i]? = some x := ⟨_, List.getElem?_eq_getElem hlt⟩
    obtain ⟨u, s⟩ := x
    obtain ⟨d, rfl, hrow⟩ := sv_row hX0 hx
    obtain ⟨hnm, hnl⟩ := hX0.2 _ (List.mem_of_getElem? hx)
    have hD : (X.map Prod.snd)[i]? = some s := by simp [hx]
    simp only at hnm hnl
    have hnm' := hnm
    obtain ⟨ua, uc, rfl, -, -, -⟩ := hnm'
    have hE1 := Ext.refl w0
    have hE2 : Ext w w0 := hE0
    by_cases hne : s.names = []
    · have hl0 : s.names.length = 0 := by rw [hne]; rfl
      refine Cd.seq ?_
      refine Cd.seq ?_
      refine Cd.region ?_
      refine Seg.step rfl rfl (Yd.move rfl) ?_
      refine Seg.step rfl rfl (Yd.move rfl) ?_
      refine Seg.step rfl rfl (Yd.lenS rfl rfl) ?_
      refine Seg.step rfl rfl (Yd.lss rfl rfl) ?_
      refine Seg.nil ?_
      refine At.then_ ?_
      refine Cd.condk rfl (fun h12 => ?_) (fun h12 => ?_)
      · refine Cd.skip ?_
        refine At.then_ ?_
        refine Cd.seq ?_
        refine Cd.block ?_
        refine Cd.seq ?_
        refine Cd.region ?_
        refine Seg.step rfl rfl (Yd.move rfl) ?_
        refine Seg.step rfl rfl (Yd.move rfl) ?_
        refine Seg.step rfl rfl (Yd.indexAddr rfl rfl rfl (NatOf.cast _) (by omega)) ?_
        refine Seg.step rfl rfl (Yd.fieldAddr rfl rfl) ?_
        refine Seg.step rfl rfl (Yd.load1 rfl rfl (hrow _ _ rfl)) ?_
        refine Seg.step rfl rfl (Yd.lenS rfl rfl) ?_
        refine Seg.step rfl rfl (Yd.gtr rfl rfl) ?_
        refine Seg.step rfl rfl (Yd.move rfl) ?_
        refine Seg.gsplitp rfl rfl (fun h28 => ?_) (fun h28 => ?_)
        · exfalso; omega
        · refine Seg.skip rfl rfl ?_
          refine Seg.skip rfl rfl ?_
          refine Seg.skip rfl rfl ?_
          refine Seg.skip rfl rfl ?_
          refine Seg.skip rfl rfl ?_
          refine Seg.skip rfl rfl ?_
          refine Seg.skip rfl rfl ?_
          refine Seg.step rfl rfl (Yd.pickF rfl rfl) ?_
          refine Seg.step rfl rfl (Yd.move rfl) ?_
          refine Seg.skip rfl rfl ?_
          refine Seg.skip rfl rfl ?_
          refine Seg.skip rfl rfl ?_
          refine Seg.skip rfl rfl ?_
          refine Seg.skip rfl rfl ?_
          refine Seg.skip rfl rfl ?_
          refine Seg.skip rfl rfl ?_
          refine Seg.skip rfl rfl ?_
          refine Seg.skip rfl rfl ?_
          refine Seg.skip rfl rfl ?_
          refine Seg.skip rfl rfl ?_
          refine Seg.step rfl rfl (Yd.pickF rfl rfl) ?_
          refine Seg.nil ?_
          refine At.then_ ?_
          refine Cd.condF rfl ?_
          refine Cd.skip ?_
          refine At.blk ?_
          refine At.then_ ?_
          refine Cd.region ?_
          refine Seg.step rfl rfl (Yd.move rfl) ?_
          refine Seg.step rfl rfl (Yd.addI rfl rfl (by omega)) ?_
          refine Seg.step rfl rfl (Yd.assign rfl) ?_
          refine Seg.nil ?_
          exact At.round (i + 1) (.cons rfl (.cons rfl (.cons rfl (.cons rfl (.cons rfl (.cons rfl (.nil _))))))) ⟨hlt, take_all hT hD (fun h => h.1 hne), by assumption⟩ (Nat.sub_lt_sub_left hlt (Nat.lt_succ_self i))
      · exfalso; omega
    · have hl0 : 0 < s.names.length := List.length_pos_iff.2 hne
      obtain ⟨ua', rfl, hnr⟩ : ∃ a, ua = some a ∧ Row w0 a (strV s.names) := by
        obtain ⟨a', c', e, _, hr, hz⟩ := hnm
        cases e
        cases ua with
        | none => have := hz rfl; omega
        | some a => exact ⟨a, rfl, hr a rfl⟩
      have hnk : Keep (Row w0 ua' (strV s.names)) := hnr
      have hn0 : (strV s.names)[0]? = some (.string ⟨(s.names.headD []).toArray⟩) := by
        cases hs : s.names with
        | nil => exact absurd hs hne
        | cons a l => rfl
      by_cases hpo : s.port = po
      · by_cases hp : ofPr pr s
        · rw [name_hit hT hD ⟨hne, hpo, hp⟩]
          by_cases h0 : pr = 0
          · refine Cd.seq ?_
            refine Cd.seq ?_
            refine Cd.region ?_
            refine Seg.step rfl rfl (Yd.move rfl) ?_
            refine Seg.step rfl rfl (Yd.move rfl) ?_
            refine Seg.step rfl rfl (Yd.lenS rfl rfl) ?_
            refine Seg.step rfl rfl (Yd.lss rfl rfl) ?_
            refine Seg.nil ?_
            refine At.then_ ?_
            refine Cd.condk rfl (fun h12 => ?_) (fun h12 => ?_)
            · refine Cd.skip ?_
              refine At.then_ ?_
              refine Cd.seq ?_
              refine Cd.block ?_
              refine Cd.seq ?_
              refine Cd.region ?_
              refine Seg.step rfl rfl (Yd.move rfl) ?_
              refine Seg.step rfl rfl (Yd.move rfl) ?_
              refine Seg.step rfl rfl (Yd.indexAddr rfl rfl rfl (NatOf.cast _) (by omega)) ?_
              refine Seg.step rfl rfl (Yd.fieldAddr rfl rfl) ?_
              refine Seg.step rfl rfl (Yd.load1 rfl rfl (hrow _ _ rfl)) ?_
              refine Seg.step rfl rfl (Yd.lenS rfl rfl) ?_
              refine Seg.step rfl rfl (Yd.gtr rfl rfl) ?_
              refine Seg.step rfl rfl (Yd.move rfl) ?_
              refine Seg.gsplitp rfl rfl (fun h28 => ?_) (fun h28 => ?_)
              · refine Seg.step rfl rfl (Yd.move rfl) ?_
                refine Seg.step rfl rfl (Yd.move rfl) ?_
                refine Seg.step rfl rfl (Yd.indexAddr rfl rfl rfl (NatOf.cast _) (by omega)) ?_
                refine Seg.step rfl rfl (Yd.fieldAddr rfl rfl) ?_
                refine Seg.step rfl rfl (Yd.load1 rfl rfl (hrow _ _ rfl)) ?_
                refine Seg.step rfl rfl (Yd.move rfl) ?_
                refine Seg.step rfl rfl (Yd.eql rfl rfl) ?_
                refine Seg.step rfl rfl (Yd.pickT rfl rfl) ?_
                refine Seg.step rfl rfl (Yd.move rfl) ?_
                refine Seg.gsplitp rfl rfl (fun h39 => ?_) (fun h39 => ?_)
                · refine Seg.step rfl rfl (Yd.move rfl) ?_
                  refine Seg.step rfl rfl (Yd.eql rfl rfl) ?_
                  refine Seg.step rfl rfl (Yd.move rfl) ?_
                  refine Seg.gsplitp rfl rfl (fun h44 => ?_) (fun h44 => ?_)
                  · refine Seg.skip rfl rfl ?_
                    refine Seg.skip rfl rfl ?_
                    refine Seg.skip rfl rfl ?_
                    refine Seg.skip rfl rfl ?_
                    refine Seg.skip rfl rfl ?_
                    refine Seg.skip rfl rfl ?_
                    refine Seg.skip rfl rfl ?_
                    refine Seg.step rfl rfl (Yd.pickT rfl rfl) ?_
                    refine Seg.step rfl rfl (Yd.pickT rfl rfl) ?_
                    refine Seg.nil ?_
                    refine At.then_ ?_
                    refine Cd.condT rfl ?_
                    refine Cd.seq ?_
                    refine Cd.region ?_
                    refine Seg.step rfl rfl (Yd.move rfl) ?_
                    refine Seg.step rfl rfl (Yd.move rfl) ?_
                    refine Seg.step rfl rfl (Yd.indexAddr rfl rfl rfl (NatOf.cast _) (by omega)) ?_
                    refine Seg.step rfl rfl (Yd.fieldAddr rfl rfl) ?_
                    refine Seg.step rfl rfl (Yd.load1 rfl rfl (hrow _ _ rfl)) ?_
                    refine Seg.step rfl rfl (Yd.indexAddr1 rfl rfl rfl (NatOf.cast 0) (by omega)) ?_
                    refine Seg.step rfl rfl (Yd.load1 rfl rfl (hnr _ _ hn0)) ?_
                    refine Seg.step rfl rfl (Yd.assign rfl) ?_
                    refine Seg.step rfl rfl (Yd.assign rfl) ?_
                    refine Seg.nil ?_
                    refine At.then_ ?_
                    refine Cd.ret ?_
                    refine At.blk_ret ?_
                    refine At.then_ret ?_
                    refine At.then_ret ?_
                    refine At.blk_ret ?_
                    refine At.then_ret ?_
                    exact At.ret Try.results17 (.tmp rfl (.tmp rfl .nil)) ⟨rfl, by assumption⟩
                  · exfalso; omega
                · contradiction
              · exfalso; omega
            · exfalso; omega
          · have h1 : s.proto = pr := hp.resolve_left h0
            refine Cd.seq ?_
            refine Cd.seq ?_
            refine Cd.region ?_
            refine Seg.step rfl rfl (Yd.move rfl) ?_
            refine Seg.step rfl rfl (Yd.move rfl) ?_
            refine Seg.step rfl rfl (Yd.lenS rfl rfl) ?_
            refine Seg.step rfl rfl (Yd.lss rfl rfl) ?_
            refine Seg.nil ?_
            refine At.then_ ?_
            refine Cd.condk rfl (fun h12 => ?_) (fun h12 => ?_)
            · refine Cd.skip ?_
              refine At.then_ ?_
              refine Cd.seq ?_
              refine Cd.block ?_
              refine Cd.seq ?_
              refine Cd.region ?_
              refine Seg.step rfl rfl (Yd.move rfl) ?_
              refine Seg.step rfl rfl (Yd.move rfl) ?_
              refine Seg.step rfl rfl (Yd.indexAddr rfl rfl rfl (NatOf.cast _) (by omega)) ?_
              refine Seg.step rfl rfl (Yd.fieldAddr rfl rfl) ?_
              refine Seg.step rfl rfl (Yd.load1 rfl rfl (hrow _ _ rfl)) ?_
              refine Seg.step rfl rfl (Yd.lenS rfl rfl) ?_
              refine Seg.step rfl rfl (Yd.gtr rfl rfl) ?_
              refine Seg.step rfl rfl (Yd.move rfl) ?_
              refine Seg.gsplitp rfl rfl (fun h28 => ?_) (fun h28 => ?_)
              · refine Seg.step rfl rfl (Yd.move rfl) ?_
                refine Seg.step rfl rfl (Yd.move rfl) ?_
                refine Seg.step rfl rfl (Yd.indexAddr rfl rfl rfl (NatOf.cast _) (by omega)) ?_
                refine Seg.step rfl rfl (Yd.fieldAddr rfl rfl) ?_
                refine Seg.step rfl rfl (Yd.load1 rfl rfl (hrow _ _ rfl)) ?_
                refine Seg.step rfl rfl (Yd.move rfl) ?_
                refine Seg.step rfl rfl (Yd.eql rfl rfl) ?_
                refine Seg.step rfl rfl (Yd.pickT rfl rfl) ?_
                refine Seg.step rfl rfl (Yd.move rfl) ?_
                refine Seg.gsplitp rfl rfl (fun h39 => ?_) (fun h39 => ?_)
                · refine Seg.step rfl rfl (Yd.move rfl) ?_
                  refine Seg.step rfl rfl (Yd.eql rfl rfl) ?_
                  refine Seg.step rfl rfl (Yd.move rfl) ?_
                  refine Seg.gsplitp rfl rfl (fun h44 => ?_) (fun h44 => ?_)
                  · exfalso; omega
                  · refine Seg.step rfl rfl (Yd.move rfl) ?_
                    refine Seg.step rfl rfl (Yd.move rfl) ?_
                    refine Seg.step rfl rfl (Yd.indexAddr rfl rfl rfl (NatOf.cast _) (by omega)) ?_
                    refine Seg.step rfl rfl (Yd.fieldAddr rfl rfl) ?_
                    refine Seg.step rfl rfl (Yd.load1 rfl rfl (hrow _ _ rfl)) ?_
                    refine Seg.step rfl rfl (Yd.move rfl) ?_
                    refine Seg.step rfl rfl (Yd.eql rfl rfl) ?_
                    refine Seg.step rfl rfl (Yd.pickF rfl rfl) ?_
                    refine Seg.step rfl rfl (Yd.pickT rfl rfl) ?_
                    refine Seg.nil ?_
                    refine At.then_ ?_
                    refine Cd.condk rfl (fun h57 => ?_) (fun h57 => ?_)
                    · refine Cd.seq ?_
                      refine Cd.region ?_
                      refine Seg.step rfl rfl (Yd.move rfl) ?_
                      refine Seg.step rfl rfl (Yd.move rfl) ?_
                      refine Seg.step rfl rfl (Yd.indexAddr rfl rfl rfl (NatOf.cast _) (by omega)) ?_
                      refine Seg.step rfl rfl (Yd.fieldAddr rfl rfl) ?_
                      refine Seg.step rfl rfl (Yd.load1 rfl rfl (hrow _ _ rfl)) ?_
                      refine Seg.step rfl rfl (Yd.indexAddr1 rfl rfl rfl (NatOf.cast 0) (by omega)) ?_
                      refine Seg.step rfl rfl (Yd.load1 rfl rfl (hnr _ _ hn0)) ?_
                      refine Seg.step rfl rfl (Yd.assign rfl) ?_
                      refine Seg.step rfl rfl (Yd.assign rfl) ?_
                      refine Seg.nil ?_
                      refine At.then_ ?_
                      refine Cd.ret ?_
                      refine At.blk_ret ?_
                      refine At.then_ret ?_
                      refine At.then_ret ?_
                      refine At.blk_ret ?_
                      refine At.then_ret ?_
                      exact At.ret Try.results17 (.tmp rfl (.tmp rfl .nil)) ⟨rfl, by assumption⟩
                    · contradiction
                · contradiction
              · exfalso; omega
            · exfalso; omega
        · have h0 : ¬ pr = 0 := fun h => hp (.inl h)
          have h1 : ¬ s.proto = pr := fun h => hp (.inr h)
          refine Cd.seq ?_
          refine Cd.seq ?_
          refine Cd.region ?_
          refine Seg.step rfl rfl (Yd.move rfl) ?_
          refine Seg.step rfl rfl (Yd.move rfl) ?_
          refine Seg.step rfl rfl (Yd.lenS rfl rfl) ?_
          refine Seg.step rfl rfl (Yd.lss rfl rfl) ?_
          refine Seg.nil ?_
          refine At.then_ ?_
          refine Cd.condk rfl (fun h12 => ?_) (fun h12 => ?_)
          · refine Cd.skip ?_
            refine At.then_ ?_
            refine Cd.seq ?_
            refine Cd.block ?_
            refine Cd.seq ?_
            refine Cd.region ?_
            refine Seg.step rfl rfl (Yd.move rfl) ?_
            refine Seg.step rfl rfl (Yd.move rfl) ?_
            refine Seg.step rfl rfl (Yd.indexAddr rfl rfl rfl (NatOf.cast _) (by omega)) ?_
            refine Seg.step rfl rfl (Yd.fieldAddr rfl rfl) ?_
            refine Seg.step rfl rfl (Yd.load1 rfl rfl (hrow _ _ rfl)) ?_
            refine Seg.step rfl rfl (Yd.lenS rfl rfl) ?_
            refine Seg.step rfl rfl (Yd.gtr rfl rfl) ?_
            refine Seg.step rfl rfl (Yd.move rfl) ?_
            refine Seg.gsplitp rfl rfl (fun h28 => ?_) (fun h28 => ?_)
            · refine Seg.step rfl rfl (Yd.move rfl) ?_
              refine Seg.step rfl rfl (Yd.move rfl) ?_
              refine Seg.step rfl rfl (Yd.indexAddr rfl rfl rfl (NatOf.cast _) (by omega)) ?_
              refine Seg.step rfl rfl (Yd.fieldAddr rfl rfl) ?_
              refine Seg.step rfl rfl (Yd.load1 rfl rfl (hrow _ _ rfl)) ?_
              refine Seg.step rfl rfl (Yd.move rfl) ?_
              refine Seg.step rfl rfl (Yd.eql rfl rfl) ?_
              refine Seg.step rfl rfl (Yd.pickT rfl rfl) ?_
              refine Seg.step rfl rfl (Yd.move rfl) ?_
              refine Seg.gsplitp rfl rfl (fun h39 => ?_) (fun h39 => ?_)
              · refine Seg.step rfl rfl (Yd.move rfl) ?_
                refine Seg.step rfl rfl (Yd.eql rfl rfl) ?_
                refine Seg.step rfl rfl (Yd.move rfl) ?_
                refine Seg.gsplitp rfl rfl (fun h44 => ?_) (fun h44 => ?_)
                · exfalso; omega
                · refine Seg.step rfl rfl (Yd.move rfl) ?_
                  refine Seg.step rfl rfl (Yd.move rfl) ?_
                  refine Seg.step rfl rfl (Yd.indexAddr rfl rfl rfl (NatOf.cast _) (by omega)) ?_
                  refine Seg.step rfl rfl (Yd.fieldAddr rfl rfl) ?_
                  refine Seg.step rfl rfl (Yd.load1 rfl rfl (hrow _ _ rfl)) ?_
                  refine Seg.step rfl rfl (Yd.move rfl) ?_
                  refine Seg.step rfl rfl (Yd.eql rfl rfl) ?_
                  refine Seg.step rfl rfl (Yd.pickF rfl rfl) ?_
                  refine Seg.step rfl rfl (Yd.pickT rfl rfl) ?_
                  refine Seg.nil ?_
                  refine At.then_ ?_
                  refine Cd.condk rfl (fun h57 => ?_) (fun h57 => ?_)
                  · contradiction
                  · refine Cd.skip ?_
                    refine At.blk ?_
                    refine At.then_ ?_
                    refine Cd.region ?_
                    refine Seg.step rfl rfl (Yd.move rfl) ?_
                    refine Seg.step rfl rfl (Yd.addI rfl rfl (by omega)) ?_
                    refine Seg.step rfl rfl (Yd.assign rfl) ?_
                    refine Seg.nil ?_
                    exact At.round (i + 1) (.cons rfl (.cons rfl (.cons rfl (.cons rfl (.cons rfl (.cons rfl (.nil _))))))) ⟨hlt, take_all hT hD (fun h => hp h.2.2), by assumption⟩ (Nat.sub_lt_sub_left hlt (Nat.lt_succ_self i))
              · contradiction
            · exfalso; omega
          · exfalso; omega
      · refine Cd.seq ?_
        refine Cd.seq ?_
        refine Cd.region ?_
        refine Seg.step rfl rfl (Yd.move rfl) ?_
        refine Seg.step rfl rfl (Yd.move rfl) ?_
        refine Seg.step rfl rfl (Yd.lenS rfl rfl) ?_
        refine Seg.step rfl rfl (Yd.lss rfl rfl) ?_
        refine Seg.nil ?_
        refine At.then_ ?_
        refine Cd.condk rfl (fun h12 => ?_) (fun h12 => ?_)
        · refine Cd.skip ?_
          refine At.then_ ?_
          refine Cd.seq ?_
          refine Cd.block ?_
          refine Cd.seq ?_
          refine Cd.region ?_
          refine Seg.step rfl rfl (Yd.move rfl) ?_
          refine Seg.step rfl rfl (Yd.move rfl) ?_
          refine Seg.step rfl rfl (Yd.indexAddr rfl rfl rfl (NatOf.cast _) (by omega)) ?_
          refine Seg.step rfl rfl (Yd.fieldAddr rfl rfl) ?_
          refine Seg.step rfl rfl (Yd.load1 rfl rfl (hrow _ _ rfl)) ?_
          refine Seg.step rfl rfl (Yd.lenS rfl rfl) ?_
          refine Seg.step rfl rfl (Yd.gtr rfl rfl) ?_
          refine Seg.step rfl rfl (Yd.move rfl) ?_
          refine Seg.gsplitp rfl rfl (fun h28 => ?_) (fun h28 => ?_)
          · refine Seg.step rfl rfl (Yd.move rfl) ?_
            refine Seg.step rfl rfl (Yd.move rfl) ?_
            refine Seg.step rfl rfl (Yd.indexAddr rfl rfl rfl (NatOf.cast _) (by omega)) ?_
            refine Seg.step rfl rfl (Yd.fieldAddr rfl rfl) ?_
            refine Seg.step rfl rfl (Yd.load1 rfl rfl (hrow _ _ rfl)) ?_
            refine Seg.step rfl rfl (Yd.move rfl) ?_
            refine Seg.step rfl rfl (Yd.eql rfl rfl) ?_
            refine Seg.step rfl rfl (Yd.pickT rfl rfl) ?_
            refine Seg.step rfl rfl (Yd.move rfl) ?_
            refine Seg.gsplitp rfl rfl (fun h39 => ?_) (fun h39 => ?_)
            · contradiction
            · refine Seg.skip rfl rfl ?_
              refine Seg.skip rfl rfl ?_
              refine Seg.skip rfl rfl ?_
              refine Seg.skip rfl rfl ?_
              refine Seg.skip rfl rfl ?_
              refine Seg.skip rfl rfl ?_
              refine Seg.skip rfl rfl ?_
              refine Seg.skip rfl rfl ?_
              refine Seg.skip rfl rfl ?_
              refine Seg.skip rfl rfl ?_
              refine Seg.skip rfl rfl ?_
              refine Seg.step rfl rfl (Yd.pickF rfl rfl) ?_
              refine Seg.nil ?_
              refine At.then_ ?_
              refine Cd.condF rfl ?_
              refine Cd.skip ?_
              refine At.blk ?_
              refine At.then_ ?_
              refine Cd.region ?_
              refine Seg.step rfl rfl (Yd.move rfl) ?_
              refine Seg.step rfl rfl (Yd.addI rfl rfl (by omega)) ?_
              refine Seg.step rfl rfl (Yd.assign rfl) ?_
              refine Seg.nil ?_
              exact At.round (i + 1) (.cons rfl (.cons rfl (.cons rfl (.cons rfl (.cons rfl (.cons rfl (.nil _))))))) ⟨hlt, take_all hT hD (fun h => hpo h.2.1), by assumption⟩ (Nat.sub_lt_sub_left hlt (Nat.lt_succ_self i))
          · exfalso; omega
        · exfalso; omega
  · rw [name_end hT (by simp; omega)]
    refine Cd.seq ?_
    refine Cd.seq ?_
    refine Cd.region ?_
    refine Seg.step rfl rfl (Yd.move rfl) ?_
    refine Seg.step rfl rfl (Yd.move rfl) ?_
    refine Seg.step rfl rfl (Yd.lenS rfl rfl) ?_
    refine Seg.step rfl rfl (Yd.lss rfl rfl) ?_
    refine Seg.nil ?_
    refine At.then_ ?_
    refine Cd.condk rfl (fun h10 => ?_) (fun h10 => ?_)
    · exfalso; omega
    · refine Cd.exit ?_
      refine At.then_exit ?_
      refine At.then_exit ?_
      refine At.blk_same ?_
      refine At.then_ ?_
      refine Cd.seq ?_
      refine Cd.region ?_
      refine Seg.step rfl rfl (Yd.assign rfl) ?_
      refine Seg.step rfl rfl (Yd.assign rfl) ?_
      refine Seg.nil ?_
      refine At.then_ ?_
      refine Cd.ret ?_
      exact At.ret Try.results17 (.tmp rfl (.tmp rfl .nil)) ⟨rfl, by assumption⟩
end Go.Proofs.Ytbmgigbedmgfpaa
