/- Rules: a store of many cells into a block of one's own; results of several parts. -/
import Derived.Test.YtahpiaaffeiadaaGreatDoorWkh
import Derived.Laws.Cover3
namespace Go.Proofs.YtahpiaaffeiadaaGreatDoor
open Go Go.RowKit
theorem Bx.setRow {w : World} {b : Nat} {cs : List Value} (h : Bx w b cs) (cs' : List Value) : Bx (w.setRow b cs'.toArray) b cs' ∧ Wr b w (w.setRow b cs'.toArray) := by
  obtain ⟨T, hT⟩ := h
  exact ⟨⟨T, setRow_heap w b _ _ T _ hT⟩, ⟨rfl, rfl, rfl, by simp, fun k _ hne => setRow_other w b k _ (fun e => hne (by rw [e]))⟩⟩
/-- What a slice holds lies at block N or above. -/
def Above (N : Nat) (v : Value) : Prop := ∀ p m c, v = .slice (some p) m c → N ≤ p.block
theorem own_above {w : World} {base e k m : Nat} {v : Value} {cs : List Value} (h : w.ownsRow base e k v m cs) : Above base v := by
  intro p m' c hv
  obtain ⟨h1, h2⟩ := h
  rcases h2 with ⟨rfl, rfl⟩ | ⟨g, cap, cur, rfl, hb, _⟩
  · cases hv
  · cases hv; exact hb
theorem Above.nil (N : Nat) : Above N (.slice none 0 0) := fun _ _ _ h => by cases h
theorem Above.down {N N' : Nat} {v : Value} (h : Above N v) (hN : N' ≤ N) : Above N' v := fun p m c hv => Nat.le_trans hN (h p m c hv)
theorem Sl.wr_above {w w' : World} {k m b N : Nat} {v : Value} {cs : List Value} (h : Sl w k v m cs) (ha : Above N v) (hg : Wr b w w') (hb : b < N) : Sl w' k v m cs :=
  h.wr hg (fun p m' c hv _ e => by have := ha p m' c hv; omega)
/-- A slice whose cells lie in blocks from lo on, below hi. -/
def SlB (w : World) (lo hi k : Nat) (v : Value) (m : Nat) (cs : List Value) : Prop := Sl w k v m cs ∧ Above lo v ∧ SlLt hi v
theorem SlB.ext {w w' : World} {lo hi k m : Nat} {v : Value} {cs : List Value} (h : SlB w lo hi k v m cs) (hE : Ext w w') : SlB w' lo hi k v m cs := ⟨h.1.ext hE, h.2⟩
theorem SlB.wr {w w' : World} {lo hi k m b : Nat} {v : Value} {cs : List Value} (h : SlB w lo hi k v m cs) (hg : Wr b w w') (hb : b < lo ∨ hi ≤ b) : SlB w' lo hi k v m cs :=
  ⟨h.1.wr hg (fun p m' c hv hm e => by have h1 := h.2.1 p m' c hv; have h2 := h.2.2 p m' c hv hm; omega), h.2⟩
/-- The world has N blocks at least. -/
def Big (N : Nat) (w : World) : Prop := N ≤ w.heap.size
theorem Big.ext {N : Nat} {w w' : World} (h : Big N w) (hE : Ext w w') : Big N w' := Nat.le_trans h hE.size
theorem Big.wr {N b : Nat} {w w' : World} (h : Big N w) (hg : Wr b w w') (_ : 0 ≤ b) : Big N w' := Nat.le_trans h hg.size
theorem putAt_from : ∀ (r pre old : List Value), old.length = r.length → putAt (pre ++ old) pre.length r = pre ++ r
  | [], pre, old, h => by rw [List.eq_nil_of_length_eq_zero h]; rfl
  | v :: r, pre, [], h => by simp at h
  | v :: r, pre, o :: old, h => by
    have := putAt_from r (pre ++ [v]) old (by simpa using h)
    rw [putAt]
    simpa using this
theorem putAt_whole {l r : List Value} (h : l.length = r.length) : putAt l 0 r = r := by simpa using putAt_from r [] l h
/-- A slice of one struct, just made. -/
theorem own_single {w : World} {base e k : Nat} {v : Value} {l r : List Value} (h : w.ownsRow base e k v 1 (putAt l 0 r)) (hl : l.length = r.length) : Sl w k v 1 r := by
  rw [putAt_whole hl] at h
  exact own_sl h
section
variable {P : Program} [Tys P] {n : Fm} {ops : Array Oper} {Q : Exit → Act → World → Prop} {fr : Fr} {w : World} {T : TypeId}
theorem Ys.storeN {U : TypeId} {x y : Operand} {b : Nat} {cs : List Value} {a : Array Value}
    (hU : szOf P U = some a.toList.length) (hx : Fr.ev fr x = some (.pointer (some ⟨b, 0, none⟩))) (hy : Fr.ev fr y = some (.agg a)) (hB : Bx w b cs) (hl : cs.length = a.toList.length)
    (hv : ∀ c ∈ a.toList, c.oneCell' = true) : Ys P n (.store U x y) T fr w (w.setRow b a.toList.toArray) := by
  obtain ⟨TT, hT⟩ := hB
  have hrun : (storeVar U ⟨b, 0, none⟩ (.agg a)).run P w = .ok () (w.setRow b a.toList.toArray) := by
    have := run_storeCells_from (P := P) b TT a.toList 0 cs.toArray w hT (by simp only [List.size_toArray]; omega) hv
    unfold storeVar
    rw [Sem.run_bind, run_size hU]
    simp only [Result.andThen_ok, Value.cells]
    simpa using this
  exact .mk fun a' ha d pos aft g => by
    simp [execOp, Instr.storeAt, Instr.sureAddr, ha.ev hx, ha.ev hy, hrun]
/-- A struct stored over a block of one's own. -/
theorem Seg.storeN {U : TypeId} {x y : Operand} {pos : String} {aft : Array Edge} {g : Option (Nat × Bool)} {rest : List Oper} {b : Nat} {cs : List Value} {a : Array Value}
    (hg : gd ops fr g = some true) (hU : szOf P U = some a.toList.length) (hx : Fr.ev fr x = some (.pointer (some ⟨b, 0, none⟩))) (hy : Fr.ev fr y = some (.agg a)) (hB : Bx w b cs) (hl : cs.length = a.toList.length)
    (hv : ∀ c ∈ a.toList, c.oneCell' = true)
    (kk : ∀ w1, Wr b w w1 → Bx w1 b a.toList → Seg P n ops Q rest fr w1) : Seg P n ops Q (⟨none, .store U x y, T, pos, aft, g⟩ :: rest) fr w := by
  obtain ⟨h1, h2⟩ := hB.setRow a.toList
  obtain ⟨TT, hT⟩ := hB
  have hrun : (storeVar U ⟨b, 0, none⟩ (.agg a)).run P w = .ok () (w.setRow b a.toList.toArray) := by
    have := run_storeCells_from (P := P) b TT a.toList 0 cs.toArray w hT (by simp only [List.size_toArray]; omega) hv
    unfold storeVar
    rw [Sem.run_bind, run_size hU]
    simp only [Result.andThen_ok, Value.cells]
    simpa using this
  exact Seg.step0 (w' := w.setRow b a.toList.toArray) hg (.mk fun a' ha d pos aft g => by
    simp [execOp, Instr.storeAt, Instr.sureAddr, ha.ev hx, ha.ev hy, hrun]) (kk _ h2 h1)
omit [Tys P] in
/-- A part of several results. -/
theorem Yd.extract {x : Operand} {vs : List Value} {k : Nat} {v : Value} (hx : Fr.ev fr x = some (.tuple vs.toArray)) (hk : vs[k]? = some v) : Yd P n (.extract x k) T fr w v w :=
  .val fun a ha _ _ _ _ => by simp [execOp, ha.ev hx, Instr.extract, hk]
theorem Yd.eqlNilS {x y : Operand} {U U' e k : Nat} {ao : Option Addr} {l c : Nat} (hU : slOf P U = some (e, k)) (hx : Fr.ev fr x = some (.slice ao l c)) (hy : Fr.ev fr y = some (.slice none 0 0)) : Yd P n (.binOp .eql U x y U') T fr w (.bool ao.isNone) w :=
  .bin hx hy eqGuard_sl (by simp [binOp, run_equal_slice_nil w U e ao l c (und_sl hU).1])
theorem Yd.neqNilS {x y : Operand} {U U' e k : Nat} {ao : Option Addr} {l c : Nat} (hU : slOf P U = some (e, k)) (hx : Fr.ev fr x = some (.slice ao l c)) (hy : Fr.ev fr y = some (.slice none 0 0)) : Yd P n (.binOp .neq U x y U') T fr w (.bool (!ao.isNone)) w :=
  .bin hx hy eqGuard_sl (by simp [binOp, run_equal_slice_nil w U e ao l c (und_sl hU).1])
omit [Tys P] in
theorem Yd.min2 {x y : Operand} {U U' : TypeId} {k k' : IntKind} {i j : Int} (hx : Fr.ev fr x = some (.int k i)) (hy : Fr.ev fr y = some (.int k' j)) : Yd P n (.call ⟨.builtin .min, #[x, y], #[U, U']⟩) T fr w (.int k (if j < i then j else i)) w :=
  .val fun a ha d pos aft g => by
    simp [execOp, resolve, invoke, builtin, ha.ev hx, ha.ev hy, Builtin.min_, Builtin.min2]
omit [Tys P] in
theorem Yd.makeFunc {f : Fn} {first cap : List Operand} {vs us : List Value} (h1 : Fr.evs fr first = some vs) (h2 : Fr.evs fr cap = some us) : Yd P n (.makeFunc f first.toArray cap.toArray) T fr w (.func f vs.toArray us.toArray) w :=
  .val fun a ha _ _ _ _ => by
    simp [execOp, Instr.makeFunc, ha.evs h1, ha.evs h2]
omit [Tys P] in
/-- A call of a function value, its result unheeded. -/
theorem Seg.callv0 {x : Operand} {f : FuncId} {first cap : List Value} {xs : List Operand} {ats : Array TypeId} {pos : String} {aft : Array Edge} {g : Option (Nat × Bool)} {rest : List Oper} {vs : List Value} {R : Value → World → Prop}
    (hg : gd ops fr g = some true) (hv : Fr.ev fr x = some (.func (.func f) first.toArray cap.toArray)) (hf : Own P f) (hx : Fr.evs fr xs = some vs) (hc : Ret P f (first ++ vs ++ cap).toArray w R)
    (k : ∀ v w', R v w' → Seg P n ops Q rest fr w') :
    Seg P n ops Q (⟨none, .call ⟨.value x, xs.toArray, ats⟩, T, pos, aft, g⟩ :: rest) fr w := .mk fun a ha => by
  refine wpList_step fun K hK => ?_
  rw [if_pos (gd_wanted ha (o := ⟨none, .call ⟨.value x, xs.toArray, ats⟩, T, pos, aft, g⟩) hg)]
  unfold Oper.wp
  have e : (execOp a.eval ⟨none, .call ⟨.value x, xs.toArray, ats⟩, T, pos, aft, g⟩).run P w = .ok (.enter f (first ++ vs ++ cap).toArray) w := by
    simp [execOp, resolve, ha.ev hv, Deferred.ofValue, invoke, hf.run, ha.evs hx]
  rw [e]
  exact Calls.mono hc fun e' w' ⟨v, he, hv⟩ => by
    subst he
    exact hK _ _ ((k v w' hv).out _ ha)
end

/-- Operation i may be taken next. -/
structure SegP (P : Program) (n : Fm) (ops : Array Oper) (Q : Exit → Act → World → Prop) (fuel : Nat) (listed : Array Bool) (fr : Fr) (w : World) (i : Nat) : Prop where
  out : ∀ a, Fr.Of fr n a → wpOp P ops (NoPanic Q) i (wpAny P .any ops (NoPanic Q) fuel (listed.setIfInBounds i true)) a w
section
variable {P : Program} {n : Fm} {ops : Array Oper} {Q : Exit → Act → World → Prop} {fuel : Nat} {listed : Array Bool} {fr : Fr} {w : World}
theorem SegA.two {i j : Nat} (hr : Region.ready .any ops listed = [i, j]) (h1 : SegP P n ops Q fuel listed fr w i) (h2 : SegP P n ops Q fuel listed fr w j) : SegA P n ops Q (fuel + 1) listed fr w := .mk fun a ha =>
  wpAny_all hr (by simp) fun k hk => by
    simp only [List.mem_cons, List.not_mem_nil, or_false] at hk
    rcases hk with rfl | rfl
    · exact h1.out a ha
    · exact h2.out a ha
theorem SegA.one0 (i : Nat) {op : Op} {T : TypeId} {pos : String} {aft : Array Edge} {g : Option (Nat × Bool)} {w' : World}
    (hi : ops[i]? = some ⟨none, op, T, pos, aft, g⟩) (hr : Region.ready .any ops listed = [i])
    (hg : gd ops fr g = some true) (hy : Ys P n op T fr w w')
    (k : SegA P n ops Q fuel (listed.setIfInBounds i true) fr w') : SegA P n ops Q (fuel + 1) listed fr w := .mk fun a ha =>
  wpAny_all hr (by simp) fun j hj => by
    simp only [List.mem_singleton] at hj
    subst hj
    unfold wpOp
    rw [hi]
    simp only [gd_wanted ha (o := ⟨none, op, T, pos, aft, g⟩) hg, if_true]
    left
    unfold Oper.wp
    rw [hy.out a ha none pos aft g]
    exact k.out _ ha
theorem SegP.val {i d : Nat} {op : Op} {T : TypeId} {pos : String} {aft : Array Edge} {g : Option (Nat × Bool)} {v : Value} {w' : World}
    (hi : ops[i]? = some ⟨some d, op, T, pos, aft, g⟩) (hg : gd ops fr g = some true) (hd : Nat.blt d n.n = true) (hy : Yd P n op T fr w v w')
    (k : SegA P n ops Q fuel (listed.setIfInBounds i true) ((d, v) :: fr) w') : SegP P n ops Q fuel listed fr w i := .mk fun a ha => by
  unfold wpOp
  rw [hi]
  simp only [gd_wanted ha (o := ⟨some d, op, T, pos, aft, g⟩) hg, if_true]
  left
  unfold Oper.wp
  rw [hy.out a ha (some d) pos aft g]
  exact k.out _ (ha.put hd _)
theorem SegP.call {i d : Nat} {f : FuncId} {xs : List Operand} {ats : Array TypeId} {T : TypeId} {pos : String} {aft : Array Edge} {g : Option (Nat × Bool)} {vs : List Value} {R : Value → World → Prop}
    (hi : ops[i]? = some ⟨some d, .call ⟨.value (.func f), xs.toArray, ats⟩, T, pos, aft, g⟩) (hg : gd ops fr g = some true) (hd : Nat.blt d n.n = true) (hf : Own P f) (hx : Fr.evs fr xs = some vs) (hc : Ret P f vs.toArray w R)
    (k : ∀ v w', R v w' → SegA P n ops Q fuel (listed.setIfInBounds i true) ((d, v) :: fr) w') : SegP P n ops Q fuel listed fr w i := .mk fun a ha => by
  unfold wpOp
  rw [hi]
  simp only [gd_wanted ha (o := ⟨some d, .call ⟨.value (.func f), xs.toArray, ats⟩, T, pos, aft, g⟩) hg, if_true]
  left
  unfold Oper.wp
  have e : execOp a.eval ⟨some d, .call ⟨.value (.func f), xs.toArray, ats⟩, T, pos, aft, g⟩ = callFunc f (#[] ++ xs.toArray.map a.eval ++ #[]) := rfl
  rw [e, hf.run]
  have e2 : (#[] ++ xs.toArray.map a.eval ++ #[] : Array Value) = vs.toArray := by simp [ha.evs hx]
  rw [e2]
  exact Calls.mono hc fun e' w' ⟨v, he, hv⟩ => by
    subst he
    exact (k v w' hv).out _ (ha.put hd _)
theorem SegA.storeN [Tys P] (i : Nat) {U T : TypeId} {x y : Operand} {pos : String} {aft : Array Edge} {g : Option (Nat × Bool)} {b : Nat} {cs : List Value} {a : Array Value}
    (hi : ops[i]? = some ⟨none, .store U x y, T, pos, aft, g⟩) (hr : Region.ready .any ops listed = [i]) (hg : gd ops fr g = some true)
    (hU : szOf P U = some a.toList.length) (hx : Fr.ev fr x = some (.pointer (some ⟨b, 0, none⟩))) (hy : Fr.ev fr y = some (.agg a)) (hB : Bx w b cs) (hl : cs.length = a.toList.length)
    (hv : ∀ c ∈ a.toList, c.oneCell' = true) (kk : ∀ w1, Wr b w w1 → Bx w1 b a.toList → SegA P n ops Q fuel (listed.setIfInBounds i true) fr w1) : SegA P n ops Q (fuel + 1) listed fr w :=
  SegA.one0 i hi hr hg (Ys.storeN hU hx hy hB hl hv) (kk _ (hB.setRow _).2 (hB.setRow _).1)
end
end Go.Proofs.YtahpiaaffeiadaaGreatDoor
