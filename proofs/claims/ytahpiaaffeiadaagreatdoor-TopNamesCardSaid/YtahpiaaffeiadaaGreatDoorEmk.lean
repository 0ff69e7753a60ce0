/- Messages read: message.Decode. -/
import Derived.Test.YtahpiaaffeiadaaGreatDoorEmd
namespace Go.Proofs.YtahpiaaffeiadaaGreatDoor
open Go Go.RowKit
section
variable {P : Program} [Tys P] {n : Fm} {ops : Array Oper} {Q : Exit → Act → World → Prop} {fr : Fr} {w : World} {T : TypeId}
/-- A struct stored over a part of a block of one's own. -/
theorem Seg.storeP {U : TypeId} {x y : Operand} {pos : String} {aft : Array Edge} {g : Option (Nat × Bool)} {rest : List Oper} {b o : Nat} {cs : List Value} {a : Array Value}
    (hg : gd ops fr g = some true) (hU : szOf P U = some a.toList.length) (hx : Fr.ev fr x = some (.pointer (some (Addr.add ⟨b, 0, none⟩ o)))) (hy : Fr.ev fr y = some (.agg a)) (hB : Bx w b cs) (hl : o + a.toList.length ≤ cs.length)
    (hv : ∀ c ∈ a.toList, c.oneCell' = true)
    (kk : ∀ w1, Wr b w w1 → Bx w1 b (cs.take o ++ a.toList ++ cs.drop (o + a.toList.length)) → Seg P n ops Q rest fr w1) : Seg P n ops Q (⟨none, .store U x y, T, pos, aft, g⟩ :: rest) fr w := by
  obtain ⟨h1, h2⟩ := hB.setRow (cs.take o ++ a.toList ++ cs.drop (o + a.toList.length))
  obtain ⟨TT, hT⟩ := hB
  rw [addr_lit] at hx
  have hrun : (storeVar U ⟨b, o, none⟩ (.agg a)).run P w = .ok () (w.setRow b (cs.take o ++ a.toList ++ cs.drop (o + a.toList.length)).toArray) := by
    have := run_storeCells_at (P := P) b o TT a.toList 0 cs.toArray w hT (by simp only [List.size_toArray]; omega) hv
    unfold storeVar
    rw [Sem.run_bind, run_size hU]
    simp only [Result.andThen_ok, Value.cells]
    simpa using this
  exact Seg.step0 (w' := w.setRow b (cs.take o ++ a.toList ++ cs.drop (o + a.toList.length)).toArray) hg (.mk fun a' ha d pos aft g => by
    simp [execOp, Instr.storeAt, Instr.sureAddr, ha.ev hx, ha.ev hy, hrun]) (kk _ h2 h1)
end
/-- A question as it is read. -/
structure DQ where
  n : List (List UInt8)
  kind : Nat
  cls : Nat
/-- Questions can be read in s from place a on, to place b. -/
def QsRd (s : List UInt8) : Nat → List DQ → Nat → Prop
  | a, [], b => a = b
  | a, q :: r, b => ∃ f e, Rdn s f a a q.n e ∧ szN q.n ≤ 255 ∧ e + 4 ≤ s.length ∧ q.kind = deB ((s.drop e).take 2) ∧ q.cls = deB ((s.drop (e + 2)).take 2) ∧ QsRd s (e + 4) r b
def dqC : List Value → List DQ → List Value
  | u :: us, q :: qs => u :: .int .i64 (q.kind : Nat) :: .int .i64 (q.cls : Nat) :: dqC us qs
  | _, _ => []
theorem dqC_snoc : ∀ (us : List Value) (qs : List DQ) (u : Value) (q : DQ), us.length = qs.length → dqC (us ++ [u]) (qs ++ [q]) = dqC us qs ++ [u, .int .i64 (q.kind : Nat), .int .i64 (q.cls : Nat)]
  | [], [], _, _, _ => rfl
  | u :: us, q :: qs, v, r, h => by
    show u :: _ :: _ :: dqC (us ++ [v]) (qs ++ [r]) = _
    rw [dqC_snoc us qs v r (by simpa using h)]
    rfl
  | [], _ :: _, _, _, h => by cases h
  | _ :: _, [], _, _, h => by cases h
/-- Each name in a row of one's own. -/
def QsOwn (w : World) (base : Nat) (us : List Value) (qs : List DQ) : Prop := us.length = qs.length ∧ ∀ (j : Nat) u q, us[j]? = some u → qs[j]? = some q → OwnS w base u q.n
theorem QsOwn.ext {w w' : World} {base : Nat} {us : List Value} {qs : List DQ} (h : QsOwn w base us qs) (hE : Ext w w') : QsOwn w' base us qs := ⟨h.1, fun j u q hu hq => own_ext (h.2 j u q hu hq) hE⟩
theorem QsOwn.wr {w w' : World} {base b : Nat} {us : List Value} {qs : List DQ} (h : QsOwn w base us qs) (hW : Wr b w w') (hb : b < base) : QsOwn w' base us qs := ⟨h.1, fun j u q hu hq => own_wr (h.2 j u q hu hq) hW (own_noblk (h.2 j u q hu hq) hb)⟩
theorem QsOwn.kept {w w' : World} {base base' e k m : Nat} {v : Value} {cs : List Value} {us : List Value} {qs : List DQ} (h : QsOwn w base us qs) (ho : w.ownsRow base' e k v m cs) (hne : e ≠ 9) (hg : w.grownBy w' v.ownBlock) : QsOwn w' base us qs :=
  ⟨h.1, fun j u q hu hq => own_keep ho (h.2 j u q hu hq) hne hg⟩
theorem QsOwn.down {w : World} {base base' : Nat} {us : List Value} {qs : List DQ} (h : QsOwn w base us qs) (hb : base' ≤ base) : QsOwn w base' us qs := ⟨h.1, fun j u q hu hq => own_down (h.2 j u q hu hq) hb⟩
theorem QsOwn.snoc {w : World} {base : Nat} {us : List Value} {qs : List DQ} {u : Value} {q : DQ} (h : QsOwn w base us qs) (hu : OwnS w base u q.n) : QsOwn w base (us ++ [u]) (qs ++ [q]) := by
  refine ⟨by simp [h.1], fun j u' q' h1 h2 => ?_⟩
  by_cases hj : j < us.length
  · rw [List.getElem?_append_left hj] at h1
    rw [List.getElem?_append_left (by rw [← h.1]; exact hj)] at h2
    exact h.2 j u' q' h1 h2
  · have h1l := (List.getElem?_eq_some_iff.1 h1).1
    rw [List.length_append] at h1l
    have : j = us.length := by simp at h1l; omega
    subst this
    rw [List.getElem?_append_right (Nat.le_refl _), Nat.sub_self] at h1
    rw [List.getElem?_append_right (by rw [h.1]; exact Nat.le_refl _), h.1, Nat.sub_self] at h2
    cases h1; cases h2; exact hu
theorem mdec1_idle (x y : Value) (w : World) : CallsD Tryz.prog 31 #[x, y] .returning w fun e u' w' => e = .returned (.tuple #[]) ∧ u' = .returning ∧ w' = w := by
  refine callsD_of_wpS Tryz.func31 rfl fun c₀ cs hu => ?_
  apply wpS_seq
  apply wpS_region
  simp [wpOpsS, go_sem, recoverD, hu, Tryz.ntmps31, Exit.thenS]
  apply wpS_seq
  apply wpS_seq
  apply wpS_region
  simp [wpOpsS, go_sem, Exit.thenS]
  refine wpS_cond (t := true) (by simp [Act.eval, Array.replicate]) ?_
  simp only [if_true]
  refine wpS_of_wp (wp_ret ?_)
  cases c₀
  simp_all [bodyPostS, results, Tryz.results31, Exit.thenS]
/-- Questions' cells in a row of one's own. -/
def OwnQ (w : World) (base : Nat) (v : Value) (m : Nat) (cs : List Value) : Prop := w.ownsRow base 33 3 v m cs
theorem OwnQ.ext {w w' : World} {base : Nat} {v : Value} {m : Nat} {cs : List Value} (h : OwnQ w base v m cs) (hE : Ext w w') : OwnQ w' base v m cs := own_ext h hE
theorem OwnQ.wr {w w' : World} {base b : Nat} {v : Value} {m : Nat} {cs : List Value} (h : OwnQ w base v m cs) (hW : Wr b w w') (hb : b < base) : OwnQ w' base v m cs := own_wr h hW (own_noblk h hb)
structure DcS where
  done : List DQ
  rest : List DQ
  us : List Value
  at' : Nat
  v : Value
theorem mdecode_any (s : List UInt8) (qs : List DQ) (w : World) (hl : s.length ≤ 65535) (h12 : 12 ≤ s.length) (hql : qs.length ≤ 65535) (hc : cntV s 4 = [.int .i64 (qs.length : Nat), .int .i64 0, .int .i64 0, .int .i64 0]) (hq : QsRd s 12 qs s.length) :
    Ret Tryz.prog 9 #[.string ⟨s.toArray⟩] w fun v w' => (∃ us qv, v = .tuple #[.agg ((hdOf s).cells ++ [qv, .slice none 0 0, .slice none 0 0, .slice none 0 0]).toArray, .int .i64 0] ∧ Sl w' 3 qv qs.length (dqC us qs) ∧ QsOwn w' w.heap.size us qs) ∧ Ext w w' := by
  have hE0 := Ext.refl w
  refine Ret.bodyD Tryz.func9 rfl Tryz.ntmps9 rfl ?_
  have h1 : ¬ (65535 : Int) < (s.length : Int) := by omega
  refine Cd.seq ?_
  refine Cd.region ?_
  refine Seg.alloc rfl rfl rfl (fun w15 b15 hE15 hB15 hb15 => ?_)
  have hlt15_0 := Nat.le_trans hE0.size hb15
  replace hE0 := Ext.trans hE0 hE15
  refine Seg.alloc rfl rfl rfl (fun w16 b16 hE16 hB16 hb16 => ?_)
  have hlt16_0 := Nat.le_trans hE15.size hb16
  have hlt16_1 := Nat.lt_of_lt_of_le hB15.lt hb16
  have hlt16_2 := Nat.le_trans hE0.size hb16
  replace hE15 := Ext.trans hE15 hE16
  replace hB15 := hB15.ext hE16
  replace hE0 := Ext.trans hE0 hE16
  refine Seg.nil ?_
  refine At.then_ ?_
  refine Cd.seq ?_
  refine Cd.seq ?_
  refine Cd.region ?_
  refine Seg.step rfl rfl (Yd.move rfl) ?_
  refine Seg.step rfl rfl (Yd.lenStr rfl rfl) ?_
  refine Seg.step rfl rfl (Yd.gtr rfl rfl) ?_
  refine Seg.nil ?_
  refine At.then_ ?_
  refine Cd.condk rfl (fun h27 => ?_) (fun h27 => ?_)
  · exfalso; omega
  refine Cd.skip ?_
  refine At.then_ ?_
  refine Cd.seq ?_
  refine Cd.region ?_
  refine Seg.step rfl rfl (Yd.move rfl) ?_
  (refine Seg.call rfl rfl (own_of rfl) rfl (hget_any s _ h12) ?_; rw [hc]; rintro _ w34 ⟨rfl, hE34⟩)
  replace hE16 := Ext.trans hE16 hE34
  replace hB16 := hB16.ext hE34
  replace hE15 := Ext.trans hE15 hE34
  replace hB15 := hB15.ext hE34
  replace hE0 := Ext.trans hE0 hE34
  refine Seg.step rfl rfl (Yd.move rfl) ?_
  refine Seg.step rfl rfl (Yd.extract rfl rfl) ?_
  refine Seg.step rfl rfl (Yd.extract rfl rfl) ?_
  refine Seg.step rfl rfl (Yd.extract rfl rfl) ?_
  refine Seg.alloc rfl rfl rfl (fun w39 b39 hE39 hB39 hb39 => ?_)
  have hlt39_0 := Nat.le_trans hE34.size hb39
  have hlt39_1 := Nat.le_trans hE16.size hb39
  have hlt39_2 := Nat.lt_of_lt_of_le hB16.lt hb39
  have hlt39_3 := Nat.le_trans hE15.size hb39
  have hlt39_4 := Nat.lt_of_lt_of_le hB15.lt hb39
  have hlt39_5 := Nat.le_trans hE0.size hb39
  replace hE34 := Ext.trans hE34 hE39
  replace hE16 := Ext.trans hE16 hE39
  replace hB16 := hB16.ext hE39
  replace hE15 := Ext.trans hE15 hE39
  replace hB15 := hB15.ext hE39
  replace hE0 := Ext.trans hE0 hE39
  refine Seg.alloc rfl rfl rfl (fun w40 b40 hE40 hB40 hb40 => ?_)
  have hlt40_0 := Nat.le_trans hE39.size hb40
  have hlt40_1 := Nat.lt_of_lt_of_le hB39.lt hb40
  have hlt40_2 := Nat.le_trans hE34.size hb40
  have hlt40_3 := Nat.le_trans hE16.size hb40
  have hlt40_4 := Nat.lt_of_lt_of_le hB16.lt hb40
  have hlt40_5 := Nat.le_trans hE15.size hb40
  have hlt40_6 := Nat.lt_of_lt_of_le hB15.lt hb40
  have hlt40_7 := Nat.le_trans hE0.size hb40
  replace hE39 := Ext.trans hE39 hE40
  replace hB39 := hB39.ext hE40
  replace hE34 := Ext.trans hE34 hE40
  replace hE16 := Ext.trans hE16 hE40
  replace hB16 := hB16.ext hE40
  replace hE15 := Ext.trans hE15 hE40
  replace hB15 := hB15.ext hE40
  replace hE0 := Ext.trans hE0 hE40
  refine Seg.storeN rfl rfl rfl rfl hB39 rfl (by first | assumption | exact List.all_eq_true.1 rfl) (fun w41 hW41 hB41 => ?_)
  clear hB39
  replace hB40 := hB40.wr hW41 (by omega)
  replace hE39 := Ext.wr' hE39 hW41 (by omega)
  replace hE34 := Ext.wr' hE34 hW41 (by omega)
  replace hE16 := Ext.wr' hE16 hW41 (by omega)
  replace hB16 := hB16.wr hW41 (by omega)
  replace hE15 := Ext.wr' hE15 hW41 (by omega)
  replace hB15 := hB15.wr hW41 (by omega)
  replace hE0 := Ext.wr' hE0 hW41 (by omega)
  refine Seg.storeN rfl rfl rfl rfl hB40 rfl (by first | assumption | exact List.all_eq_true.1 rfl) (fun w42 hW42 hB42 => ?_)
  clear hB40
  replace hB41 := hB41.wr hW42 (by omega)
  replace hE39 := Ext.wr' hE39 hW42 (by omega)
  replace hE34 := Ext.wr' hE34 hW42 (by omega)
  replace hE16 := Ext.wr' hE16 hW42 (by omega)
  replace hB16 := hB16.wr hW42 (by omega)
  replace hE15 := Ext.wr' hE15 hW42 (by omega)
  replace hB15 := hB15.wr hW42 (by omega)
  replace hE0 := Ext.wr' hE0 hW42 (by omega)
  refine Seg.step rfl rfl (Yd.assign rfl) ?_
  refine Seg.nil ?_
  refine At.then_ ?_
  refine Cd.seq ?_
  refine Cd.seq ?_
  refine Cd.region ?_
  refine Seg.step rfl rfl (Yd.move rfl) ?_
  refine Seg.step rfl rfl (Yd.neq rfl rfl) ?_
  refine Seg.nil ?_
  refine At.then_ ?_
  refine Cd.condF rfl ?_
  refine Cd.skip ?_
  refine At.then_ ?_
  refine Cd.seq ?_
  refine Cd.region ?_
  refine Seg.step rfl rfl (Yd.makeFunc rfl rfl) ?_
  refine Seg.defer (cap := [.pointer (some ⟨b15, 0, none⟩), .pointer (some ⟨b16, 0, none⟩)]) rfl rfl ?_
  have hEw : Keep (Ext w w42) := by assumption
  have hE9 := Ext.refl w42
  have hv15 : w.heap.size ≤ b15 := by omega
  have hv16 : w.heap.size ≤ b16 := by omega
  have hl15 := hB15.lt
  have hl16 := hB16.lt
  have hne16 : b15 < b16 := by omega
  have hH : Bx w42 b39 (hdOf s).cells := hB41
  have hC : Bx w42 b40 [.int .i64 (qs.length : Nat), .int .i64 0, .int .i64 0, .int .i64 0] := hB42
  have hn39 : b39 ≠ b15 ∧ b39 ≠ b16 ∧ b40 ≠ b15 ∧ b40 ≠ b16 := by omega
  have hl39 := hB41.lt
  have hl40 := hB42.lt
  clear hB41 hB42 hW41 hW42
  refine Seg.nil ?_
  refine At.then_ ?_
  refine Cd.seq ?_
  refine Cd.region ?_
  refine Seg.step rfl rfl (Yd.move rfl) ?_
  refine Seg.step rfl rfl (Yd.buildT (cs := _ :: _ :: []) 2 rfl rfl rfl rfl rfl) ?_
  refine Seg.alloc rfl rfl rfl (fun w49 b49 hE49 hB49 hb49 => ?_)
  have hlt49_0 := Nat.le_trans hE39.size hb49
  have hlt49_1 := Nat.le_trans hE34.size hb49
  have hlt49_2 := Nat.le_trans hE16.size hb49
  have hlt49_3 := Nat.lt_of_lt_of_le hB16.lt hb49
  have hlt49_4 := Nat.le_trans hE15.size hb49
  have hlt49_5 := Nat.lt_of_lt_of_le hB15.lt hb49
  have hlt49_6 := Nat.le_trans hE0.size hb49
  have hlt49_7 := Nat.le_trans hE9.size hb49
  have hlt49_8 := Nat.lt_of_lt_of_le hH.lt hb49
  have hlt49_9 := Nat.lt_of_lt_of_le hC.lt hb49
  replace hE39 := Ext.trans hE39 hE49
  replace hE34 := Ext.trans hE34 hE49
  replace hE16 := Ext.trans hE16 hE49
  replace hB16 := hB16.ext hE49
  replace hE15 := Ext.trans hE15 hE49
  replace hB15 := hB15.ext hE49
  replace hE0 := Ext.trans hE0 hE49
  replace hE9 := Ext.trans hE9 hE49
  replace hH := hH.ext hE49
  replace hC := hC.ext hE49
  refine Seg.storeN rfl rfl rfl rfl hB49 rfl (by first | assumption | exact List.all_eq_true.1 rfl) (fun w50 hW50 hB50 => ?_)
  clear hB49
  replace hE49 := Ext.wr' hE49 hW50 (by omega)
  replace hE39 := Ext.wr' hE39 hW50 (by omega)
  replace hE34 := Ext.wr' hE34 hW50 (by omega)
  replace hE16 := Ext.wr' hE16 hW50 (by omega)
  replace hB16 := hB16.wr hW50 (by omega)
  replace hE15 := Ext.wr' hE15 hW50 (by omega)
  replace hB15 := hB15.wr hW50 (by omega)
  replace hE0 := Ext.wr' hE0 hW50 (by omega)
  replace hE9 := Ext.wr' hE9 hW50 (by omega)
  replace hH := hH.wr hW50 (by omega)
  replace hC := hC.wr hW50 (by omega)
  refine Seg.nil ?_
  refine At.then_ ?_
  refine Cd.seq ?_
  refine Cd.region ?_
  refine Seg.step rfl rfl (Yd.loadN rfl rfl rfl hH.row) ?_
  refine Seg.step rfl rfl (Yd.fieldAddr rfl rfl) ?_
  refine Seg.storeP rfl rfl rfl rfl hB15 (Nat.le_of_ble_eq_true rfl) (by first | assumption | exact List.all_eq_true.1 rfl) (fun w57 hW57 hB57 => ?_)
  clear hB15
  replace hB50 := hB50.wr hW57 (by omega)
  replace hB16 := hB16.wr hW57 (by omega)
  replace hE15 := Ext.wr' hE15 hW57 (by omega)
  replace hE0 := Ext.wr' hE0 hW57 (by omega)
  replace hH := hH.wr hW57 (by omega)
  replace hC := hC.wr hW57 (by omega)
  refine Seg.nil ?_
  refine At.then_ ?_
  refine Cd.seq ?_
  refine Cd.seq ?_
  refine Cd.region ?_
  refine Seg.step rfl rfl (Yd.indexArr1 rfl rfl rfl (NatOf.cast 0) (by omega)) ?_
  refine Seg.step rfl rfl (Yd.load1 rfl rfl (hC.row _ _ rfl)) ?_
  refine Seg.step rfl rfl (Yd.move rfl) ?_
  refine Seg.nil ?_
  refine At.then_ ?_
  refine Cd.block ?_
  have hbm : b15 ≠ b49 := by omega
  have hl49 := hB50.lt
  have hlb15 := hB57.lt
  have hlb16 := hB16.lt
  have hE0 : Ext w w57 := by assumption
  refine Cd.loop (σ := DcS) (fun t => [(0, .string ⟨s.toArray⟩), (2, .pointer (some ⟨b15, 0, none⟩)), (3, .pointer (some ⟨b16, 0, none⟩)), (5, .pointer (some ⟨b40, 0, none⟩)), (7, .pointer (some ⟨b49, 0, none⟩)), (28, .int .i64 (qs.length : Nat)), (29, .int .i64 (t.done.length : Nat))])
    (fun t w' => (t.done ++ t.rest = qs ∧ QsRd s t.at' t.rest s.length) ∧ Bx w' b15 ((hdOf s).cells ++ [t.v, .slice none 0 0, .slice none 0 0, .slice none 0 0]) ∧ Bx w' b49 [.string ⟨s.toArray⟩, .int .i64 (t.at' : Nat)] ∧ Bx w' b16 [.int .i64 0] ∧ Bx w' b40 [.int .i64 (qs.length : Nat), .int .i64 0, .int .i64 0, .int .i64 0] ∧
      (OwnQ w' w57.heap.size t.v t.done.length (dqC t.us t.done) ∧ QsOwn w' w57.heap.size t.us t.done) ∧ Ext w w' ∧ w57.heap.size ≤ w'.heap.size) (fun t => t.rest.length) ⟨[], qs, [], 12, .slice none 0 0⟩ (.cons rfl (.cons rfl (.cons rfl (.cons rfl (.cons rfl (.cons rfl (.cons rfl (.nil _))))))))
    ⟨⟨rfl, hq⟩, hB57, hB50, hB16, hC, ⟨World.ownsRow_nil _ _ _ _, rfl, fun j u q h => by cases h⟩, hE0, Nat.le_refl _⟩ ?_
  have hb57 := Below.size hE0
  have kE57 : Keep (Ext w w57) := hE0
  clear hB57 hB50 hB16 hC hH hE0 hW57 hW50
  rintro ⟨done, rest, us, at', v⟩ w1 ⟨⟨hdr, hqr⟩, hBm, hBp, hB16, hC, ⟨hO, hQ⟩, hE1, hs1⟩
  simp only at hdr hqr hBm hBp hO hQ ⊢
  cases rest with
  | nil =>
    have hat : at' = s.length := hqr
    have hdq : done = qs := by rw [← hdr, List.append_nil]
    subst hdq
    subst hat
    obtain ⟨va, vc, rfl⟩ := own_shape hO
    refine Cd.seq ?_
    refine Cd.region ?_
    refine Seg.step rfl rfl (Yd.lss rfl rfl) ?_
    refine Seg.nil ?_
    refine At.then_ ?_
    refine Cd.seq ?_
    refine Cd.condk rfl (fun h64 => ?_) (fun h64 => ?_)
    · exfalso; omega
    · refine Cd.exit ?_
      refine At.then_exit ?_
      refine At.then_exit ?_
      refine At.blk_same ?_
      refine At.then_ ?_
      refine Cd.seq ?_
      refine Cd.region ?_
      refine Seg.step rfl rfl (Yd.indexArr1 rfl rfl rfl (NatOf.cast 1) (by omega)) ?_
      refine Seg.step rfl rfl (Yd.load1 rfl rfl (hC.row _ _ rfl)) ?_
      (refine Seg.call rfl rfl (own_of rfl) rfl (mrecs0_any _ _) ?_; rintro _ w75 ⟨rfl, hE75⟩)
      replace hB16 := hB16.ext hE75
      replace hQ := hQ.ext hE75
      replace hE1 := Ext.trans hE1 hE75
      replace hC := hC.ext hE75
      replace hBp := hBp.ext hE75
      replace hBm := hBm.ext hE75
      replace hO := hO.ext hE75
      refine Seg.step rfl rfl (Yd.fieldAddr rfl rfl) ?_
      refine Seg.store1 rfl rfl rfl rfl rfl hBm (by first | omega | (simp; done) | exact Nat.le_of_ble_eq_true rfl) (fun w77 hW77 hB77 => ?_)
      clear hBm
      replace hB16 := hB16.wr hW77 (by omega)
      replace hQ := hQ.wr hW77 (by omega)
      replace hE1 := Ext.wr' hE1 hW77 (by omega)
      replace hC := hC.wr hW77 (by omega)
      replace hBp := hBp.wr hW77 (by omega)
      replace hO := hO.wr hW77 (by omega)
      refine Seg.nil ?_
      refine At.then_ ?_
      refine Cd.seq ?_
      refine Cd.region ?_
      refine Seg.step rfl rfl (Yd.indexArr1 rfl rfl rfl (NatOf.cast 2) (by omega)) ?_
      refine Seg.step rfl rfl (Yd.load1 rfl rfl (hC.row _ _ rfl)) ?_
      (refine Seg.call rfl rfl (own_of rfl) rfl (mrecs0_any _ _) ?_; rintro _ w84 ⟨rfl, hE84⟩)
      replace hW77 := Wr.trans hW77 (Ext.wr hE84 _)
      replace hB77 := hB77.ext hE84
      replace hB16 := hB16.ext hE84
      replace hQ := hQ.ext hE84
      replace hE1 := Ext.trans hE1 hE84
      replace hC := hC.ext hE84
      replace hBp := hBp.ext hE84
      replace hO := hO.ext hE84
      refine Seg.step rfl rfl (Yd.fieldAddr rfl rfl) ?_
      refine Seg.store1 rfl rfl rfl rfl rfl hB77 (by first | omega | (simp; done) | exact Nat.le_of_ble_eq_true rfl) (fun w86 hW86 hB86 => ?_)
      clear hB77
      replace hW77 := Wr.trans hW77 hW86
      replace hB16 := hB16.wr hW86 (by omega)
      replace hQ := hQ.wr hW86 (by omega)
      replace hE1 := Ext.wr' hE1 hW86 (by omega)
      replace hC := hC.wr hW86 (by omega)
      replace hBp := hBp.wr hW86 (by omega)
      replace hO := hO.wr hW86 (by omega)
      refine Seg.nil ?_
      refine At.then_ ?_
      refine Cd.seq ?_
      refine Cd.region ?_
      refine Seg.step rfl rfl (Yd.indexArr1 rfl rfl rfl (NatOf.cast 3) (by omega)) ?_
      refine Seg.step rfl rfl (Yd.load1 rfl rfl (hC.row _ _ rfl)) ?_
      (refine Seg.call rfl rfl (own_of rfl) rfl (mrecs0_any _ _) ?_; rintro _ w93 ⟨rfl, hE93⟩)
      replace hW86 := Wr.trans hW86 (Ext.wr hE93 _)
      replace hB86 := hB86.ext hE93
      replace hW77 := Wr.trans hW77 (Ext.wr hE93 _)
      replace hB16 := hB16.ext hE93
      replace hQ := hQ.ext hE93
      replace hE1 := Ext.trans hE1 hE93
      replace hC := hC.ext hE93
      replace hBp := hBp.ext hE93
      replace hO := hO.ext hE93
      refine Seg.step rfl rfl (Yd.fieldAddr rfl rfl) ?_
      refine Seg.store1 rfl rfl rfl rfl rfl hB86 (by first | omega | (simp; done) | exact Nat.le_of_ble_eq_true rfl) (fun w95 hW95 hB95 => ?_)
      clear hB86
      replace hW86 := Wr.trans hW86 hW95
      replace hW77 := Wr.trans hW77 hW95
      replace hB16 := hB16.wr hW95 (by omega)
      replace hQ := hQ.wr hW95 (by omega)
      replace hE1 := Ext.wr' hE1 hW95 (by omega)
      replace hC := hC.wr hW95 (by omega)
      replace hBp := hBp.wr hW95 (by omega)
      replace hO := hO.wr hW95 (by omega)
      refine Seg.nil ?_
      refine At.then_ ?_
      refine Cd.seq ?_
      refine Cd.seq ?_
      refine Cd.region ?_
      refine Seg.step rfl rfl (Yd.fieldAddr rfl rfl) ?_
      refine Seg.step rfl rfl (Yd.load1 rfl rfl (hBp.row _ _ rfl)) ?_
      refine Seg.step rfl rfl (Yd.move rfl) ?_
      refine Seg.step rfl rfl (Yd.lenStr rfl rfl) ?_
      refine Seg.step rfl rfl (Yd.lss rfl rfl) ?_
      refine Seg.nil ?_
      refine At.then_ ?_
      refine Cd.condk rfl (fun h108 => ?_) (fun h108 => ?_)
      · exfalso; omega
      · refine Cd.skip ?_
        refine At.then_ ?_
        refine Cd.seq ?_
        refine Cd.region ?_
        refine Seg.step rfl rfl (Yd.loadN rfl rfl rfl hB95.row) ?_
        refine Seg.storeN rfl rfl rfl rfl hB95 rfl (by first | assumption | exact List.all_eq_true.1 rfl) (fun w115 hW115 hB115 => ?_)
        clear hB95
        replace hW95 := Wr.trans hW95 hW115
        replace hW86 := Wr.trans hW86 hW115
        replace hW77 := Wr.trans hW77 hW115
        replace hB16 := hB16.wr hW115 (by omega)
        replace hQ := hQ.wr hW115 (by omega)
        replace hE1 := Ext.wr' hE1 hW115 (by omega)
        replace hC := hC.wr hW115 (by omega)
        replace hBp := hBp.wr hW115 (by omega)
        replace hO := hO.wr hW115 (by omega)
        refine Seg.store1h rfl rfl rfl rfl rfl hB16 (by first | omega | (simp; done) | exact Nat.le_of_ble_eq_true rfl) (fun w116 hW116 hB116 => ?_)
        clear hB16
        replace hB115 := hB115.wr hW116 (by omega)
        replace hQ := hQ.wr hW116 (by omega)
        replace hE1 := Ext.wr' hE1 hW116 (by omega)
        replace hC := hC.wr hW116 (by omega)
        replace hBp := hBp.wr hW116 (by omega)
        replace hO := hO.wr hW116 (by omega)
        refine Seg.nil ?_
        refine At.then_ ?_
        refine Cd.ret ?_
        exact At.retD1 (f := 31) Tryz.results9 (own_of rfl) (mdec1_idle _ _ _) (.cell rfl (run_loadVarN rfl rfl (show Row w116 ⟨b15, 0, none⟩ ((hdOf s).cells ++ [.slice va done.length vc, .slice none 0 0, .slice none 0 0, .slice none 0 0]) from hB115.row)) (.cell rfl (run_loadVar1 rfl (show Bx w116 b16 [.int .i64 0] from hB116).row.head) .nil)) ⟨⟨us, _, rfl, own_sl hO, hQ.down hb57⟩, hE1⟩
  | cons q r =>
    obtain ⟨f, e, hR, hz, he, hk, hcl, hqr⟩ := hqr
    have hdl : (done.length : Int) < (qs.length : Int) := by rw [← hdr, List.length_append]; simp; omega
    refine Cd.seq ?_
    refine Cd.region ?_
    refine Seg.step rfl rfl (Yd.lss rfl rfl) ?_
    refine Seg.nil ?_
    refine At.then_ ?_
    refine Cd.seq ?_
    refine Cd.condk rfl (fun h64 => ?_) (fun h64 => ?_)
    rotate_left 1
    · exfalso; omega
    rotate_right 1
    refine Cd.skip ?_
    refine At.then_ ?_
    refine Cd.seq ?_
    refine Cd.block ?_
    refine Cd.heldC (fun w' => Bx w' b15 ((hdOf s).cells ++ [v, .slice none 0 0, .slice none 0 0, .slice none 0 0])) 6 (by kernel_rfl) (fun w2 hE2 => ?_)
    have hBm2 := hBm.ext hE2
    have hBp2 := hBp.ext hE2
    refine SegC.take 0 rfl (by kernel_rfl) (by kernel_rfl) (by kernel_rfl) (by kernel_rfl) (by kernel_rfl) rfl rfl hBm2 (fun w' hw' => Yd.fieldAddr rfl rfl) ?_
    refine SegC.take 1 rfl (by kernel_rfl) (by kernel_rfl) (by kernel_rfl) (by kernel_rfl) (by kernel_rfl) rfl rfl hBm2 (fun w' hw' => Yd.load1 rfl rfl (hw'.row _ _ rfl)) ?_
    refine SegC.oneSeg (o := ⟨_, _, _, _, _, _⟩) 2 rfl (by kernel_rfl) ?_
    refine Seg.call rfl rfl (own_of rfl) rfl (mquest_any s b49 f at' e q.n _ hBp2 hR hl hz he) ?_
    rw [← hk, ← hcl]
    rintro _ w3 ⟨⟨u, rfl, hU3⟩, hW3, hBp3⟩
    have hBm3 := hBm2.wr hW3 hbm
    have hO3 : OwnQ w3 w57.heap.size v done.length (dqC us done) := (hO.ext hE2).wr hW3 hl49
    have hQ3 := (hQ.ext hE2).wr hW3 hl49
    have hB163 := (hB16.ext hE2).wr hW3 (by omega)
    have hC3 := (hC.ext hE2).wr hW3 (by omega)
    have hs3 := Nat.le_trans hs1 (Nat.le_trans (Below.size hE2) hW3.size)
    have hU3 : OwnS w3 w57.heap.size u q.n := own_down hU3 (Nat.le_trans hs1 (Below.size hE2))
    have hE3 : Ext w w3 := Ext.wr' (Ext.trans hE1 hE2) hW3 (by omega)
    obtain ⟨ua, uc, rfl, _, _, _⟩ := own_sl hU3
    clear hBm hBp hB16 hC hO hQ hBm2 hBp2 hE1 hs1 hE2 hW3
    refine Seg.nil (At.backC rfl hBm3 ?_)
    refine SegC.oneSeg (o := ⟨_, _, _, _, _, _⟩) 3 rfl (by kernel_rfl) ?_
    have hE3b := Ext.refl w3
    refine Seg.buildSliceV rfl rfl rfl rfl rfl rfl rfl rfl rfl rfl (fun w164 b164 hE164 hB164 hb164 hO164 => ?_)
    have hlt164_0 := Nat.lt_of_lt_of_le hBp3.lt hb164
    have hlt164_1 := Nat.lt_of_lt_of_le hBm3.lt hb164
    have hlt164_2 := Nat.lt_of_lt_of_le hB163.lt hb164
    have hlt164_3 := Nat.lt_of_lt_of_le hC3.lt hb164
    have hlt164_4 := Nat.le_trans hE3.size hb164
    have hlt164_5 := Nat.le_trans hE3b.size hb164
    replace hBp3 := hBp3.ext hE164
    replace hBm3 := hBm3.ext hE164
    replace hO3 := hO3.ext hE164
    replace hQ3 := hQ3.ext hE164
    replace hB163 := hB163.ext hE164
    replace hC3 := hC3.ext hE164
    replace hE3 := Ext.trans hE3 hE164
    replace hE3b := Ext.trans hE3b hE164
    refine Seg.nil ?_
    refine At.backC rfl hBm3 ?_
    refine SegC.oneSeg (o := ⟨_, _, _, _, _, _⟩) 4 rfl (by kernel_rfl) ?_
    have hdn : done.length + 1 ≤ qs.length := by omega
    refine Seg.append (s := 2) (m := done.length) (m' := 1) rfl rfl rfl rfl rfl rfl rfl rfl rfl hO3 (own_sl hO164) (List.all_eq_true.1 rfl) (Nat.le_trans hs3 (Below.size hE164)) (by omega) rfl (fun v5 w5 hO5 hG5 _ => ?_)
    have hcs : dqC us done ++ List.flatMap zcells [Value.agg #[.slice ua q.n.length uc, .int .i64 (q.kind : Nat), .int .i64 (q.cls : Nat)]] = dqC (us ++ [.slice ua q.n.length uc]) (done ++ [q]) := (dqC_snoc us done _ q hQ3.1).symm
    rw [hcs] at hO5
    have hU5 := (hQ3.snoc (own_ext hU3 hE164)).kept hO3 (by decide) hG5
    have hBm5 := hBm3.grown hG5 (Ne.symm (own_noblk hO3 hlb15))
    have hBp5 := hBp3.grown hG5 (Ne.symm (own_noblk hO3 hl49))
    have hB165 := hB163.grown hG5 (Ne.symm (own_noblk hO3 hlb16))
    have hC5 := hC3.grown hG5 (Ne.symm (own_noblk hO3 (by omega)))
    have hE5 := Ext.own hE3 hO3 hb57 hG5
    have hs5 : w57.heap.size ≤ w5.heap.size := Nat.le_trans hs3 (Nat.le_trans (Below.size hE164) hG5.size)
    refine Seg.nil (At.backC rfl hBm5 ?_)
    refine SegC.oneSeg (o := ⟨_, _, _, _, _, _⟩) 5 rfl (by kernel_rfl) ?_
    refine Seg.step rfl rfl (Yd.fieldAddr rfl rfl) (Seg.nil (At.backC rfl hBm5 ?_))
    refine SegC.oneSeg (o := ⟨_, _, _, _, _, _⟩) 6 rfl (by kernel_rfl) ?_
    refine Seg.store1 (k := 10) rfl rfl rfl rfl (own_one hO5) hBm5 (by show 10 < 14; decide) (fun w6 hW6 hB6 => ?_)
    refine Seg.nil (At.endC rfl (SegA.done (by kernel_rfl) ?_))
    have hBm6 : Bx w6 b15 ((hdOf s).cells ++ [v5, .slice none 0 0, .slice none 0 0, .slice none 0 0]) := hB6
    have hBp6 := hBp5.wr hW6 (Ne.symm hbm)
    have hB166 := hB165.wr hW6 (by omega)
    have hC6 := hC5.wr hW6 (by omega)
    have hO6 : OwnQ w6 w57.heap.size v5 (done.length + 1) (dqC (us ++ [.slice ua q.n.length uc]) (done ++ [q])) := OwnQ.wr hO5 hW6 hlb15
    have hQ6 := hU5.wr hW6 hlb15
    have hE6 := Ext.wr' hE5 hW6 hv15
    have hs6 := Nat.le_trans hs5 hW6.size
    have hdl1 : (done ++ [q]).length = done.length + 1 := by simp
    have hO6b : OwnQ w6 w57.heap.size v5 (done ++ [q]).length (dqC (us ++ [.slice ua q.n.length uc]) (done ++ [q])) := by rw [hdl1]; exact hO6
    have hdr2 : (done ++ [q]) ++ r = qs := by rw [List.append_assoc]; exact hdr
    clear hB6 hW6 hBm5 hBp5 hB165 hC5 hO5 hU5 hE5 hs5 hBm3 hBp3 hB163 hC3 hO3 hQ3 hE3 hs3 hU3 hE164 hB164 hO164 hG5 hcs
    refine At.blk ?_
    refine At.then_ ?_
    refine Cd.region ?_
    refine Seg.step rfl rfl (Yd.addI rfl rfl (by omega)) ?_
    refine Seg.step rfl rfl (Yd.move rfl) ?_
    refine Seg.nil ?_
    exact At.round (⟨done ++ [q], r, us ++ [.slice ua q.n.length uc], e + 4, v5⟩ : DcS) (by rw [hdl1]; exact (.cons rfl (.cons rfl (.cons rfl (.cons rfl (.cons rfl (.cons rfl (.cons rfl (.nil _))))))))) ⟨⟨hdr2, hqr⟩, hBm6, hBp6, hB166, hC6, ⟨hO6b, hQ6⟩, hE6, hs6⟩ (Nat.lt_succ_self _)
end Go.Proofs.YtahpiaaffeiadaaGreatDoor
