/- The reference's lines: the walk. -/
import Derived.Test.YtbmgigbedmgfpaaRfb
namespace Go.Proofs.Ytbmgigbedmgfpaa
open Go Go.RowKit
/-- Lines, the first of which is begun. -/
def preL (cur : List UInt8) (L : List (List UInt8)) : List (List UInt8) := (cur ++ L.headD []) :: L.tail
theorem preL_nil (s : List UInt8) : preL [] (linesB s) = linesB s := by
  have h := lines_pos s
  unfold preL
  cases hs : linesB s with
  | nil => rw [hs] at h; simp at h
  | cons a l => rfl
theorem preL_go {s cur : List UInt8} {i : Nat} (h : i < s.length) (hx : ¬ s.getD i 0 = 10) : preL cur (linesB (s.drop i)) = preL (cur ++ [s.getD i 0]) (linesB (s.drop (i + 1))) := by
  rw [drop_at h, linesB, if_neg hx]
  simp [preL]
theorem preL_cut {s cur : List UInt8} {i : Nat} (h : i < s.length) (hx : s.getD i 0 = 10) : preL cur (linesB (s.drop i)) = cur :: linesB (s.drop (i + 1)) := by
  rw [drop_at h, linesB, if_pos hx]
  simp [preL]
theorem preL_end {s cur : List UInt8} {i : Nat} (h : i = s.length) : preL cur (linesB (s.drop i)) = [cur] := by
  rw [h, List.drop_length]
  simp [preL, linesB]
def Caps (X : List Ln) : Prop := ∀ x ∈ X, ∀ a m c, x.2.1 = .slice a m c → m ≤ c
theorem Caps.snoc {X : List Ln} {x : Ln} (h : Caps X) (hx : ∀ a m c, x.2.1 = .slice a m c → m ≤ c) : Caps (X ++ [x]) := fun y hy => by
  rcases List.mem_append.1 hy with hy | hy
  · exact h y hy
  · rw [List.mem_singleton.1 hy]; exact hx
theorem own2_snoc {w : World} {base e : Nat} {v : Value} {X : List Ln} {x : Ln} (h : w.ownsRow base e (1 + 1) v (X.length + 1) (X.flatMap lnV ++ lnV x)) : w.ownsRow base e 2 v (X ++ [x]).length ((X ++ [x]).flatMap lnV) := by
  have e1 : (X ++ [x]).length = X.length + 1 := by simp
  have e2 : (X ++ [x]).flatMap lnV = X.flatMap lnV ++ lnV x := by simp
  rw [e1, e2]; exact h
structure RaS where
  D : List (List UInt8)
  X : List Ln
  v : Value
  fr : Nat
  n : Nat
  i : Nat
def RaI (s : List UInt8) (any : Bool) (t : RaS) : Prop :=
  ((t.i ≤ s.length ∧ t.fr ≤ t.i ∧ linesB s = t.D ++ preL (subB s t.fr t.i) (linesB (s.drop t.i))) ∨ (t.i = s.length + 1 ∧ linesB s = t.D)) ∧ t.X.map lnD = allFrom any 1 t.D ∧ Caps t.X ∧ t.X.length ≤ t.i ∧ t.D.length ≤ t.i ∧ t.n = t.D.length + 1
theorem all_snoc (any : Bool) (D : List (List UInt8)) (c : List UInt8) : allFrom any 1 (D ++ [c]) = allFrom any 1 D ++ (if lineF any c = [] then [] else [(D.length + 1, lineF any c)]) := by
  rw [all_append]
  simp [allFrom, Nat.add_comm]
theorem RaI.no {s : List UInt8} {any : Bool} {D : List (List UInt8)} {X : List Ln} {v : Value} {f n i : Nat} (h : RaI s any ⟨D, X, v, f, n, i⟩) (c : List UInt8) (hc : lineF any c = []) (hn : (i + 1 ≤ s.length ∧ linesB s = (D ++ [c]) ++ preL (subB s (i + 1) (i + 1)) (linesB (s.drop (i + 1)))) ∨ (i + 1 = s.length + 1 ∧ linesB s = D ++ [c])) :
    RaI s any ⟨D ++ [c], X, v, i + 1, n + 1, i + 1⟩ := by
  obtain ⟨-, h2, h3, h4, h5, h6⟩ := h
  simp only at h2 h3 h4 h5 h6
  refine ⟨hn.imp (fun h => ⟨h.1, Nat.le_refl _, h.2⟩) id, ?_, h3, Nat.le_succ_of_le h4, ?_, ?_⟩
  · show X.map lnD = allFrom any 1 (D ++ [c])
    rw [all_snoc, if_pos hc, List.append_nil]; exact h2
  · show (D ++ [c]).length ≤ i + 1
    simp; omega
  · show n + 1 = (D ++ [c]).length + 1
    simp; omega
theorem RaI.yes {s : List UInt8} {any : Bool} {D : List (List UInt8)} {X : List Ln} {v : Value} {f n i : Nat} (h : RaI s any ⟨D, X, v, f, n, i⟩) (c : List UInt8) (hc : ¬ lineF any c = []) (hn : (i + 1 ≤ s.length ∧ linesB s = (D ++ [c]) ++ preL (subB s (i + 1) (i + 1)) (linesB (s.drop (i + 1)))) ∨ (i + 1 = s.length + 1 ∧ linesB s = D ++ [c])) (u v' : Value) (hu : ∀ a m c, u = .slice a m c → m ≤ c) :
    RaI s any ⟨D ++ [c], X ++ [((n, u, lineF any c) : Ln)], v', i + 1, n + 1, i + 1⟩ := by
  obtain ⟨-, h2, h3, h4, h5, h6⟩ := h
  simp only at h2 h3 h4 h5 h6
  refine ⟨hn.imp (fun h => ⟨h.1, Nat.le_refl _, h.2⟩) id, ?_, h3.snoc hu, ?_, ?_, ?_⟩
  · show (X ++ [((n, u, lineF any c) : Ln)]).map lnD = allFrom any 1 (D ++ [c])
    rw [all_snoc, if_neg hc, List.map_append, h2, h6]; rfl
  · show (X ++ [((n, u, lineF any c) : Ln)]).length ≤ i + 1
    simp; omega
  · show (D ++ [c]).length ≤ i + 1
    simp; omega
  · show n + 1 = (D ++ [c]).length + 1
    simp; omega
theorem rall_any (s : List UInt8) (any : Bool) (w : World) (hl : s.length ≤ 1000000) : Ret Try.prog 21 #[.string ⟨s.toArray⟩, .bool any] w fun r w' => (∃ X : List Ln, w'.ownsRow w.heap.size 28 2 r X.length (X.flatMap lnV) ∧ LnsOk (fun q => ownP r q ∨ q < w.heap.size) w' X ∧ X.map lnD = allB any s ∧ Caps X) ∧ Ext w w' := by
  have hE0 := Ext.refl w
  refine Ret.body Try.func21 rfl Try.ntmps21 rfl ?_
  refine Cd.seq ?_
  refine Cd.region ?_
  refine Seg.step rfl rfl (Yd.assign rfl) ?_
  refine Seg.nil ?_
  refine At.then_ ?_
  refine Cd.seq ?_
  refine Cd.region ?_
  refine Seg.step rfl rfl (Yd.assign rfl) ?_
  refine Seg.nil ?_
  refine At.then_ ?_
  refine Cd.seq ?_
  refine Cd.region ?_
  refine Seg.step rfl rfl (Yd.assign rfl) ?_
  refine Seg.step rfl rfl (Yd.assign rfl) ?_
  refine Seg.nil ?_
  refine At.then_ ?_
  refine Cd.seq ?_
  refine Cd.seq ?_
  refine Cd.region ?_
  refine Seg.step rfl rfl (Yd.assign rfl) ?_
  refine Seg.nil ?_
  refine At.then_ ?_
  refine Cd.block ?_
  refine Cd.loop (σ := RaS) (fun t => [(0, .string ⟨s.toArray⟩), (1, .bool any), (5, t.v), (6, .int .i64 (t.fr : Int)), (7, .int .i64 (t.n : Int)), (8, .int .i64 (t.i : Int))])
    (fun t w' => RaI s any t ∧ w'.ownsRow w.heap.size 28 2 t.v t.X.length (t.X.flatMap lnV) ∧ LnsOk (fun q => ownP t.v q ∨ q < w.heap.size) w' t.X ∧ Ext w w') (fun t => s.length + 1 - t.i) ⟨[], [], .slice none 0 0, 0, 1, 0⟩ (.cons rfl (.cons rfl (.cons rfl (.cons rfl (.cons rfl (.cons rfl (.nil _)))))))
    ⟨⟨.inl ⟨Nat.zero_le _, Nat.le_refl _, by rw [subB_self]; simp [preL_nil]⟩, rfl, (fun _ h => by cases h), Nat.zero_le _, Nat.zero_le _, rfl⟩, World.ownsRow_nil _ _ _ _, (fun _ h => by cases h), hE0⟩ ?_
  clear hE0
  rintro ⟨D, X, v, f, n, i⟩ w0 ⟨hI, hO, hL, hE9⟩
  have hI0 := hI
  obtain ⟨hc, hX, hC, hXl, hDl, hnl⟩ := hI0
  simp only at hc hX hC hXl hDl hnl hO hL ⊢
  have hE0 := Ext.refl w0
  rcases hc with ⟨hi, hfi, hlin⟩ | ⟨hi, hlin⟩
  · have hsub : (subB s f i).length ≤ 1000000 := by unfold subB; rw [List.length_drop, List.length_take]; omega
    have hpl : ∀ r, (ownP v r ∨ r < w.heap.size) → r < w0.heap.size := fun r h => h.elim (fun h => (hO.lt r h).2) (fun h => Nat.lt_of_lt_of_le h hE9.size)
    have hms : s.length + 1 - (i + 1) < s.length + 1 - i := by omega
    by_cases hlt : i < s.length
    · by_cases h10 : s.getD i 0 = 10
      · have h10' : ((s.getD i 0).toNat : Int) = 10 := by rw [h10]; rfl
        have hnext : linesB s = (D ++ [subB s f i]) ++ preL (subB s (i + 1) (i + 1)) (linesB (s.drop (i + 1))) := by
          rw [hlin, preL_cut hlt h10, subB_self, preL_nil]; simp
        by_cases hF : lineF any (subB s f i) = []
        · have hI' := hI.no _ hF (.inl ⟨hlt, hnext⟩)
          refine Cd.seq ?_
          refine Cd.seq ?_
          refine Cd.region ?_
          refine Seg.step rfl rfl (Yd.move rfl) ?_
          refine Seg.step rfl rfl (Yd.move rfl) ?_
          refine Seg.step rfl rfl (Yd.lenStr rfl rfl) ?_
          refine Seg.step rfl rfl (Yd.leq rfl rfl) ?_
          refine Seg.nil ?_
          refine At.then_ ?_
          refine Cd.condk rfl (fun h20 => ?_) (fun h20 => ?_)
          · refine Cd.skip ?_
            refine At.then_ ?_
            refine Cd.seq ?_
            refine Cd.block ?_
            refine Cd.seq ?_
            refine Cd.seq ?_
            refine Cd.region ?_
            refine Seg.step rfl rfl (Yd.move rfl) ?_
            refine Seg.step rfl rfl (Yd.move rfl) ?_
            refine Seg.step rfl rfl (Yd.lenStr rfl rfl) ?_
            refine Seg.step rfl rfl (Yd.lss rfl rfl) ?_
            refine Seg.step rfl rfl (Yd.move rfl) ?_
            refine Seg.gsplitp rfl rfl (fun h34 => ?_) (fun h34 => ?_)
            · refine Seg.step rfl rfl (Yd.move rfl) ?_
              refine Seg.step rfl rfl (Yd.move rfl) ?_
              refine Seg.step rfl rfl (Yd.indexStr rfl rfl rfl (NatOf.cast _) (by omega)) ?_
              refine Seg.step rfl rfl (Yd.neq rfl rfl) ?_
              refine Seg.step rfl rfl (Yd.pickT rfl rfl) ?_
              refine Seg.nil ?_
              refine At.then_ ?_
              refine Cd.condk rfl (fun h43 => ?_) (fun h43 => ?_)
              · exfalso; omega
              · refine Cd.skip ?_
                refine At.then_ ?_
                refine Cd.seq ?_
                refine Cd.region ?_
                refine Seg.step rfl rfl (Yd.move rfl) ?_
                refine Seg.step rfl rfl (Yd.move rfl) ?_
                refine Seg.step rfl rfl (Yd.move rfl) ?_
                (refine Seg.step rfl rfl (Yd.slStr rfl rfl rfl rfl (NatOf.cast f) (NatOf.cast i) hfi (by omega)) ?_)
                refine Seg.step rfl rfl (Yd.move rfl) ?_
                (refine Seg.call rfl rfl (own_of rfl) rfl (rlineF_any any (subB s f i) _ hsub) ?_; rw [hF]; rintro u w54 ⟨⟨hN, hAb⟩, hE54⟩; obtain ⟨ua, uc, rfl, -, -, -⟩ := id hN)
                replace hO := own_ext hO hE54
                replace hL := hL.ext hE54
                replace hE9 := Ext.trans hE9 hE54
                replace hE0 := Ext.trans hE0 hE54
                refine Seg.step rfl rfl (Yd.assign rfl) ?_
                refine Seg.nil ?_
                refine At.then_ ?_
                refine Cd.seq ?_
                refine Cd.seq ?_
                refine Cd.region ?_
                refine Seg.step rfl rfl (Yd.move rfl) ?_
                refine Seg.step rfl rfl (Yd.lenS rfl rfl) ?_
                refine Seg.step rfl rfl (Yd.gtr rfl rfl) ?_
                refine Seg.nil ?_
                refine At.then_ ?_
                refine Cd.condF rfl ?_
                refine Cd.skip ?_
                refine At.then_ ?_
                refine Cd.seq ?_
                refine Cd.region ?_
                refine Seg.step rfl rfl (Yd.move rfl) ?_
                refine Seg.step rfl rfl (Yd.addI rfl rfl (by omega)) ?_
                refine Seg.step rfl rfl (Yd.assign rfl) ?_
                refine Seg.nil ?_
                refine At.then_ ?_
                refine Cd.region ?_
                refine Seg.step rfl rfl (Yd.move rfl) ?_
                refine Seg.step rfl rfl (Yd.addI rfl rfl (by omega)) ?_
                refine Seg.step rfl rfl (Yd.assign rfl) ?_
                refine Seg.nil ?_
                refine At.blk ?_
                refine At.then_ ?_
                refine Cd.region ?_
                refine Seg.step rfl rfl (Yd.move rfl) ?_
                refine Seg.step rfl rfl (Yd.addI rfl rfl (by omega)) ?_
                refine Seg.step rfl rfl (Yd.assign rfl) ?_
                refine Seg.nil ?_
                exact At.round ⟨D ++ [subB s f i], X, v, i + 1, n + 1, i + 1⟩ (.cons rfl (.cons rfl (.cons rfl (.cons rfl (.cons rfl (.cons rfl (.nil _))))))) ⟨hI', hO, hL, hE9⟩ hms
            · exfalso; omega
          · exfalso; omega
        · have hpos : 0 < (lineF any (subB s f i)).length := List.length_pos_iff.2 hF
          have hYes := fun u v' => hI.yes _ hF (.inl ⟨hlt, hnext⟩) u v'
          have hrl := rlineF_any any (subB s f i)
          generalize lineF any (subB s f i) = F at hF hpos hYes hrl
          refine Cd.seq ?_
          refine Cd.seq ?_
          refine Cd.region ?_
          refine Seg.step rfl rfl (Yd.move rfl) ?_
          refine Seg.step rfl rfl (Yd.move rfl) ?_
          refine Seg.step rfl rfl (Yd.lenStr rfl rfl) ?_
          refine Seg.step rfl rfl (Yd.leq rfl rfl) ?_
          refine Seg.nil ?_
          refine At.then_ ?_
          refine Cd.condk rfl (fun h20 => ?_) (fun h20 => ?_)
          · refine Cd.skip ?_
            refine At.then_ ?_
            refine Cd.seq ?_
            refine Cd.block ?_
            refine Cd.seq ?_
            refine Cd.seq ?_
            refine Cd.region ?_
            refine Seg.step rfl rfl (Yd.move rfl) ?_
            refine Seg.step rfl rfl (Yd.move rfl) ?_
            refine Seg.step rfl rfl (Yd.lenStr rfl rfl) ?_
            refine Seg.step rfl rfl (Yd.lss rfl rfl) ?_
            refine Seg.step rfl rfl (Yd.move rfl) ?_
            refine Seg.gsplitp rfl rfl (fun h34 => ?_) (fun h34 => ?_)
            · refine Seg.step rfl rfl (Yd.move rfl) ?_
              refine Seg.step rfl rfl (Yd.move rfl) ?_
              refine Seg.step rfl rfl (Yd.indexStr rfl rfl rfl (NatOf.cast _) (by omega)) ?_
              refine Seg.step rfl rfl (Yd.neq rfl rfl) ?_
              refine Seg.step rfl rfl (Yd.pickT rfl rfl) ?_
              refine Seg.nil ?_
              refine At.then_ ?_
              refine Cd.condk rfl (fun h43 => ?_) (fun h43 => ?_)
              · exfalso; omega
              · refine Cd.skip ?_
                refine At.then_ ?_
                refine Cd.seq ?_
                refine Cd.region ?_
                refine Seg.step rfl rfl (Yd.move rfl) ?_
                refine Seg.step rfl rfl (Yd.move rfl) ?_
                refine Seg.step rfl rfl (Yd.move rfl) ?_
                (refine Seg.step rfl rfl (Yd.slStr rfl rfl rfl rfl (NatOf.cast f) (NatOf.cast i) hfi (by omega)) ?_)
                refine Seg.step rfl rfl (Yd.move rfl) ?_
                (refine Seg.call rfl rfl (own_of rfl) rfl (hrl _ hsub) ?_; rintro u w54 ⟨⟨hN, hAb⟩, hE54⟩; obtain ⟨ua, uc, rfl, -, -, -⟩ := id hN; have ho := OffP.above hAb.1 hpl; have hEn := Ext.refl w54)
                replace hO := own_ext hO hE54
                replace hL := hL.ext hE54
                replace hE9 := Ext.trans hE9 hE54
                replace hE0 := Ext.trans hE0 hE54
                refine Seg.step rfl rfl (Yd.assign rfl) ?_
                refine Seg.nil ?_
                refine At.then_ ?_
                refine Cd.seq ?_
                refine Cd.seq ?_
                refine Cd.region ?_
                refine Seg.step rfl rfl (Yd.move rfl) ?_
                refine Seg.step rfl rfl (Yd.lenS rfl rfl) ?_
                refine Seg.step rfl rfl (Yd.gtr rfl rfl) ?_
                refine Seg.nil ?_
                refine At.then_ ?_
                refine Cd.condk rfl (fun h66 => ?_) (fun h66 => ?_)
                · refine Cd.region ?_
                  refine Seg.step rfl rfl (Yd.move rfl) ?_
                  refine Seg.step rfl rfl (Yd.move rfl) ?_
                  refine Seg.step rfl rfl (Yd.move rfl) ?_
                  refine Seg.step rfl rfl (Yd.buildT (cs := _ :: _ :: []) 2 rfl rfl rfl rfl rfl) ?_
                  refine Seg.buildSliceV rfl rfl rfl rfl rfl rfl rfl rfl rfl rfl (fun w73 b73 hE73 hB73 hb73 hO73 => ?_)
                  have hlt73_0 := Nat.le_trans hE54.size hb73
                  have hlt73_1 := Nat.le_trans hEn.size hb73
                  have hlt73_2 := Nat.le_trans hE9.size hb73
                  have hlt73_3 := Nat.le_trans hE0.size hb73
                  replace hE54 := Ext.trans hE54 hE73
                  replace hEn := Ext.trans hEn hE73
                  replace hO := own_ext hO hE73
                  replace hL := hL.ext hE73
                  replace hE9 := Ext.trans hE9 hE73
                  replace hE0 := Ext.trans hE0 hE73
                  (refine Seg.appendAt (news := lnV (n, .slice ua F.length uc, F)) (m' := 1) rfl rfl rfl rfl rfl rfl rfl rfl rfl hO (own_sl (by assumption)) (by simp [lnV, Value.oneCell']) (Below.size hE9) (by omega) rfl (fun v74 w74 hN2 hG hAt => ?_); have hN := Sl.ext hN hEn; have tot := (Kept.grown hG hAt).mono (q := fun q => ownP v q ∨ q < w.heap.size) (q' := fun q => ownP v74 q ∨ q < w.heap.size) (fun r h => .inl h) (fun r h => h.elim .inl (fun h => .inr (.inr h))); have hE9 := Ext.own hE9 hO (Nat.le_refl _) hG)
                  refine Seg.step rfl rfl (Yd.assign rfl) ?_
                  refine Seg.nil ?_
                  refine At.then_ ?_
                  refine Cd.seq ?_
                  refine Cd.region ?_
                  refine Seg.step rfl rfl (Yd.move rfl) ?_
                  refine Seg.step rfl rfl (Yd.addI rfl rfl (by omega)) ?_
                  refine Seg.step rfl rfl (Yd.assign rfl) ?_
                  refine Seg.nil ?_
                  refine At.then_ ?_
                  refine Cd.region ?_
                  refine Seg.step rfl rfl (Yd.move rfl) ?_
                  refine Seg.step rfl rfl (Yd.addI rfl rfl (by omega)) ?_
                  refine Seg.step rfl rfl (Yd.assign rfl) ?_
                  refine Seg.nil ?_
                  refine At.blk ?_
                  refine At.then_ ?_
                  refine Cd.region ?_
                  refine Seg.step rfl rfl (Yd.move rfl) ?_
                  refine Seg.step rfl rfl (Yd.addI rfl rfl (by omega)) ?_
                  refine Seg.step rfl rfl (Yd.assign rfl) ?_
                  refine Seg.nil ?_
                  exact At.round ⟨D ++ [subB s f i], X ++ [((n, Value.slice ua F.length uc, F) : Ln)], _, i + 1, n + 1, i + 1⟩ (.cons rfl (.cons rfl (.cons rfl (.cons rfl (.cons rfl (.cons rfl (.nil _))))))) ⟨hYes _ _ hAb.2, own2_snoc hN2, (LnsOk.kept hL tot).snoc (hN.keptP tot ho) (ho.kept hN tot), hE9⟩ hms
                · exfalso; omega
            · exfalso; omega
          · exfalso; omega
      · have h10' : ¬ ((s.getD i 0).toNat : Int) = 10 := fun h => h10 (u8_ne.1 (by rw [h]; rfl))
        have hI' : RaI s any ⟨D, X, v, f, n, i + 1⟩ := ⟨.inl ⟨hlt, Nat.le_succ_of_le hfi, by show linesB s = D ++ preL (subB s f (i + 1)) (linesB (s.drop (i + 1))); rw [hlin, preL_go hlt h10]; congr 2; unfold subB; rw [take_get hlt, List.drop_append_of_le_length (by rw [List.length_take]; omega)]⟩, hX, hC, Nat.le_succ_of_le hXl, Nat.le_succ_of_le hDl, hnl⟩
        refine Cd.seq ?_
        refine Cd.seq ?_
        refine Cd.region ?_
        refine Seg.step rfl rfl (Yd.move rfl) ?_
        refine Seg.step rfl rfl (Yd.move rfl) ?_
        refine Seg.step rfl rfl (Yd.lenStr rfl rfl) ?_
        refine Seg.step rfl rfl (Yd.leq rfl rfl) ?_
        refine Seg.nil ?_
        refine At.then_ ?_
        refine Cd.condk rfl (fun h20 => ?_) (fun h20 => ?_)
        · refine Cd.skip ?_
          refine At.then_ ?_
          refine Cd.seq ?_
          refine Cd.block ?_
          refine Cd.seq ?_
          refine Cd.seq ?_
          refine Cd.region ?_
          refine Seg.step rfl rfl (Yd.move rfl) ?_
          refine Seg.step rfl rfl (Yd.move rfl) ?_
          refine Seg.step rfl rfl (Yd.lenStr rfl rfl) ?_
          refine Seg.step rfl rfl (Yd.lss rfl rfl) ?_
          refine Seg.step rfl rfl (Yd.move rfl) ?_
          refine Seg.gsplitp rfl rfl (fun h34 => ?_) (fun h34 => ?_)
          · refine Seg.step rfl rfl (Yd.move rfl) ?_
            refine Seg.step rfl rfl (Yd.move rfl) ?_
            refine Seg.step rfl rfl (Yd.indexStr rfl rfl rfl (NatOf.cast _) (by omega)) ?_
            refine Seg.step rfl rfl (Yd.neq rfl rfl) ?_
            refine Seg.step rfl rfl (Yd.pickT rfl rfl) ?_
            refine Seg.nil ?_
            refine At.then_ ?_
            refine Cd.condk rfl (fun h43 => ?_) (fun h43 => ?_)
            · refine Cd.exit ?_
              refine At.then_exit ?_
              refine At.blk_same ?_
              refine At.then_ ?_
              refine Cd.region ?_
              refine Seg.step rfl rfl (Yd.move rfl) ?_
              refine Seg.step rfl rfl (Yd.addI rfl rfl (by omega)) ?_
              refine Seg.step rfl rfl (Yd.assign rfl) ?_
              refine Seg.nil ?_
              exact At.round ⟨D, X, v, f, n, i + 1⟩ (.cons rfl (.cons rfl (.cons rfl (.cons rfl (.cons rfl (.cons rfl (.nil _))))))) ⟨hI', hO, hL, hE9⟩ hms
            · exfalso; omega
          · exfalso; omega
        · exfalso; omega
    · have his : i = s.length := by omega
      have hnext : linesB s = D ++ [subB s f i] := by
        rw [hlin, preL_end his]
      by_cases hF : lineF any (subB s f i) = []
      · have hI' := hI.no _ hF (.inr ⟨congrArg (· + 1) his, hnext⟩)
        refine Cd.seq ?_
        refine Cd.seq ?_
        refine Cd.region ?_
        refine Seg.step rfl rfl (Yd.move rfl) ?_
        refine Seg.step rfl rfl (Yd.move rfl) ?_
        refine Seg.step rfl rfl (Yd.lenStr rfl rfl) ?_
        refine Seg.step rfl rfl (Yd.leq rfl rfl) ?_
        refine Seg.nil ?_
        refine At.then_ ?_
        refine Cd.condk rfl (fun h19 => ?_) (fun h19 => ?_)
        · refine Cd.skip ?_
          refine At.then_ ?_
          refine Cd.seq ?_
          refine Cd.block ?_
          refine Cd.seq ?_
          refine Cd.seq ?_
          refine Cd.region ?_
          refine Seg.step rfl rfl (Yd.move rfl) ?_
          refine Seg.step rfl rfl (Yd.move rfl) ?_
          refine Seg.step rfl rfl (Yd.lenStr rfl rfl) ?_
          refine Seg.step rfl rfl (Yd.lss rfl rfl) ?_
          refine Seg.step rfl rfl (Yd.move rfl) ?_
          refine Seg.gsplitp rfl rfl (fun h33 => ?_) (fun h33 => ?_)
          · exfalso; omega
          · refine Seg.skip rfl rfl ?_
            refine Seg.skip rfl rfl ?_
            refine Seg.skip rfl rfl ?_
            refine Seg.skip rfl rfl ?_
            refine Seg.step rfl rfl (Yd.pickF rfl rfl) ?_
            refine Seg.nil ?_
            refine At.then_ ?_
            refine Cd.condF rfl ?_
            refine Cd.skip ?_
            refine At.then_ ?_
            refine Cd.seq ?_
            refine Cd.region ?_
            refine Seg.step rfl rfl (Yd.move rfl) ?_
            refine Seg.step rfl rfl (Yd.move rfl) ?_
            refine Seg.step rfl rfl (Yd.move rfl) ?_
            (refine Seg.step rfl rfl (Yd.slStr rfl rfl rfl rfl (NatOf.cast f) (NatOf.cast i) hfi (by omega)) ?_)
            refine Seg.step rfl rfl (Yd.move rfl) ?_
            (refine Seg.call rfl rfl (own_of rfl) rfl (rlineF_any any (subB s f i) _ hsub) ?_; rw [hF]; rintro u w52 ⟨⟨hN, hAb⟩, hE52⟩; obtain ⟨ua, uc, rfl, -, -, -⟩ := id hN)
            replace hO := own_ext hO hE52
            replace hL := hL.ext hE52
            replace hE9 := Ext.trans hE9 hE52
            replace hE0 := Ext.trans hE0 hE52
            refine Seg.step rfl rfl (Yd.assign rfl) ?_
            refine Seg.nil ?_
            refine At.then_ ?_
            refine Cd.seq ?_
            refine Cd.seq ?_
            refine Cd.region ?_
            refine Seg.step rfl rfl (Yd.move rfl) ?_
            refine Seg.step rfl rfl (Yd.lenS rfl rfl) ?_
            refine Seg.step rfl rfl (Yd.gtr rfl rfl) ?_
            refine Seg.nil ?_
            refine At.then_ ?_
            refine Cd.condF rfl ?_
            refine Cd.skip ?_
            refine At.then_ ?_
            refine Cd.seq ?_
            refine Cd.region ?_
            refine Seg.step rfl rfl (Yd.move rfl) ?_
            refine Seg.step rfl rfl (Yd.addI rfl rfl (by omega)) ?_
            refine Seg.step rfl rfl (Yd.assign rfl) ?_
            refine Seg.nil ?_
            refine At.then_ ?_
            refine Cd.region ?_
            refine Seg.step rfl rfl (Yd.move rfl) ?_
            refine Seg.step rfl rfl (Yd.addI rfl rfl (by omega)) ?_
            refine Seg.step rfl rfl (Yd.assign rfl) ?_
            refine Seg.nil ?_
            refine At.blk ?_
            refine At.then_ ?_
            refine Cd.region ?_
            refine Seg.step rfl rfl (Yd.move rfl) ?_
            refine Seg.step rfl rfl (Yd.addI rfl rfl (by omega)) ?_
            refine Seg.step rfl rfl (Yd.assign rfl) ?_
            refine Seg.nil ?_
            exact At.round ⟨D ++ [subB s f i], X, v, i + 1, n + 1, i + 1⟩ (.cons rfl (.cons rfl (.cons rfl (.cons rfl (.cons rfl (.cons rfl (.nil _))))))) ⟨hI', hO, hL, hE9⟩ hms
        · exfalso; omega
      · have hpos : 0 < (lineF any (subB s f i)).length := List.length_pos_iff.2 hF
        have hYes := fun u v' => hI.yes _ hF (.inr ⟨congrArg (· + 1) his, hnext⟩) u v'
        have hrl := rlineF_any any (subB s f i)
        generalize lineF any (subB s f i) = F at hF hpos hYes hrl
        refine Cd.seq ?_
        refine Cd.seq ?_
        refine Cd.region ?_
        refine Seg.step rfl rfl (Yd.move rfl) ?_
        refine Seg.step rfl rfl (Yd.move rfl) ?_
        refine Seg.step rfl rfl (Yd.lenStr rfl rfl) ?_
        refine Seg.step rfl rfl (Yd.leq rfl rfl) ?_
        refine Seg.nil ?_
        refine At.then_ ?_
        refine Cd.condk rfl (fun h19 => ?_) (fun h19 => ?_)
        · refine Cd.skip ?_
          refine At.then_ ?_
          refine Cd.seq ?_
          refine Cd.block ?_
          refine Cd.seq ?_
          refine Cd.seq ?_
          refine Cd.region ?_
          refine Seg.step rfl rfl (Yd.move rfl) ?_
          refine Seg.step rfl rfl (Yd.move rfl) ?_
          refine Seg.step rfl rfl (Yd.lenStr rfl rfl) ?_
          refine Seg.step rfl rfl (Yd.lss rfl rfl) ?_
          refine Seg.step rfl rfl (Yd.move rfl) ?_
          refine Seg.gsplitp rfl rfl (fun h33 => ?_) (fun h33 => ?_)
          · exfalso; omega
          · refine Seg.skip rfl rfl ?_
            refine Seg.skip rfl rfl ?_
            refine Seg.skip rfl rfl ?_
            refine Seg.skip rfl rfl ?_
            refine Seg.step rfl rfl (Yd.pickF rfl rfl) ?_
            refine Seg.nil ?_
            refine At.then_ ?_
            refine Cd.condF rfl ?_
            refine Cd.skip ?_
            refine At.then_ ?_
            refine Cd.seq ?_
            refine Cd.region ?_
            refine Seg.step rfl rfl (Yd.move rfl) ?_
            refine Seg.step rfl rfl (Yd.move rfl) ?_
            refine Seg.step rfl rfl (Yd.move rfl) ?_
            (refine Seg.step rfl rfl (Yd.slStr rfl rfl rfl rfl (NatOf.cast f) (NatOf.cast i) hfi (by omega)) ?_)
            refine Seg.step rfl rfl (Yd.move rfl) ?_
            (refine Seg.call rfl rfl (own_of rfl) rfl (hrl _ hsub) ?_; rintro u w52 ⟨⟨hN, hAb⟩, hE52⟩; obtain ⟨ua, uc, rfl, -, -, -⟩ := id hN; have ho := OffP.above hAb.1 hpl; have hEn := Ext.refl w52)
            replace hO := own_ext hO hE52
            replace hL := hL.ext hE52
            replace hE9 := Ext.trans hE9 hE52
            replace hE0 := Ext.trans hE0 hE52
            refine Seg.step rfl rfl (Yd.assign rfl) ?_
            refine Seg.nil ?_
            refine At.then_ ?_
            refine Cd.seq ?_
            refine Cd.seq ?_
            refine Cd.region ?_
            refine Seg.step rfl rfl (Yd.move rfl) ?_
            refine Seg.step rfl rfl (Yd.lenS rfl rfl) ?_
            refine Seg.step rfl rfl (Yd.gtr rfl rfl) ?_
            refine Seg.nil ?_
            refine At.then_ ?_
            refine Cd.condk rfl (fun h64 => ?_) (fun h64 => ?_)
            · refine Cd.region ?_
              refine Seg.step rfl rfl (Yd.move rfl) ?_
              refine Seg.step rfl rfl (Yd.move rfl) ?_
              refine Seg.step rfl rfl (Yd.move rfl) ?_
              refine Seg.step rfl rfl (Yd.buildT (cs := _ :: _ :: []) 2 rfl rfl rfl rfl rfl) ?_
              refine Seg.buildSliceV rfl rfl rfl rfl rfl rfl rfl rfl rfl rfl (fun w71 b71 hE71 hB71 hb71 hO71 => ?_)
              have hlt71_0 := Nat.le_trans hE52.size hb71
              have hlt71_1 := Nat.le_trans hEn.size hb71
              have hlt71_2 := Nat.le_trans hE9.size hb71
              have hlt71_3 := Nat.le_trans hE0.size hb71
              replace hE52 := Ext.trans hE52 hE71
              replace hEn := Ext.trans hEn hE71
              replace hO := own_ext hO hE71
              replace hL := hL.ext hE71
              replace hE9 := Ext.trans hE9 hE71
              replace hE0 := Ext.trans hE0 hE71
              (refine Seg.appendAt (news := lnV (n, .slice ua F.length uc, F)) (m' := 1) rfl rfl rfl rfl rfl rfl rfl rfl rfl hO (own_sl (by assumption)) (by simp [lnV, Value.oneCell']) (Below.size hE9) (by omega) rfl (fun v72 w72 hN2 hG hAt => ?_); have hN := Sl.ext hN hEn; have tot := (Kept.grown hG hAt).mono (q := fun q => ownP v q ∨ q < w.heap.size) (q' := fun q => ownP v72 q ∨ q < w.heap.size) (fun r h => .inl h) (fun r h => h.elim .inl (fun h => .inr (.inr h))); have hE9 := Ext.own hE9 hO (Nat.le_refl _) hG)
              refine Seg.step rfl rfl (Yd.assign rfl) ?_
              refine Seg.nil ?_
              refine At.then_ ?_
              refine Cd.seq ?_
              refine Cd.region ?_
              refine Seg.step rfl rfl (Yd.move rfl) ?_
              refine Seg.step rfl rfl (Yd.addI rfl rfl (by omega)) ?_
              refine Seg.step rfl rfl (Yd.assign rfl) ?_
              refine Seg.nil ?_
              refine At.then_ ?_
              refine Cd.region ?_
              refine Seg.step rfl rfl (Yd.move rfl) ?_
              refine Seg.step rfl rfl (Yd.addI rfl rfl (by omega)) ?_
              refine Seg.step rfl rfl (Yd.assign rfl) ?_
              refine Seg.nil ?_
              refine At.blk ?_
              refine At.then_ ?_
              refine Cd.region ?_
              refine Seg.step rfl rfl (Yd.move rfl) ?_
              refine Seg.step rfl rfl (Yd.addI rfl rfl (by omega)) ?_
              refine Seg.step rfl rfl (Yd.assign rfl) ?_
              refine Seg.nil ?_
              exact At.round ⟨D ++ [subB s f i], X ++ [((n, Value.slice ua F.length uc, F) : Ln)], _, i + 1, n + 1, i + 1⟩ (.cons rfl (.cons rfl (.cons rfl (.cons rfl (.cons rfl (.cons rfl (.nil _))))))) ⟨hYes _ _ hAb.2, own2_snoc hN2, (LnsOk.kept hL tot).snoc (hN.keptP tot ho) (ho.kept hN tot), hE9⟩ hms
            · exfalso; omega
        · exfalso; omega
  · have hfin : X.map lnD = allB any s := by unfold allB; rw [hlin]; exact hX
    refine Cd.seq ?_
    refine Cd.seq ?_
    refine Cd.region ?_
    refine Seg.step rfl rfl (Yd.move rfl) ?_
    refine Seg.step rfl rfl (Yd.move rfl) ?_
    refine Seg.step rfl rfl (Yd.lenStr rfl rfl) ?_
    refine Seg.step rfl rfl (Yd.leq rfl rfl) ?_
    refine Seg.nil ?_
    refine At.then_ ?_
    refine Cd.condk rfl (fun h19 => ?_) (fun h19 => ?_)
    · exfalso; omega
    · refine Cd.exit ?_
      refine At.then_exit ?_
      refine At.then_exit ?_
      refine At.blk_same ?_
      refine At.then_ ?_
      refine Cd.seq ?_
      refine Cd.region ?_
      refine Seg.step rfl rfl (Yd.move rfl) ?_
      refine Seg.step rfl rfl (Yd.assign rfl) ?_
      refine Seg.nil ?_
      refine At.then_ ?_
      refine Cd.ret ?_
      exact At.ret Try.results21 (.tmp rfl .nil) ⟨⟨X, hO, hL, hfin, hC⟩, hE9⟩
end Go.Proofs.Ytbmgigbedmgfpaa
