/- Rules: a store of many cells into a block of one's own; results of several parts. Rules: slices that are built of whole elements, in their order. Rules: structs and arrays compared. Rules: regions that draw their order, in which all reads come before one chain of operations that may write. -/
import Derived.Test.YtahpiaaffeiadaaGreatWks
import Derived.Laws.Cover3
import Derived.DeepKeys
import Derived.Laws.Slices
import Derived.StillTail
namespace Go.Proofs.YtahpiaaffeiadaaGreat
open Go Go.RowKit
theorem Bx.setRow {w : World} {b : Nat} {cs : List Value} (h : Bx w b cs) (cs' : List Value) : Bx (w.setRow b cs'.toArray) b cs' ∧ Wr b w (w.setRow b cs'.toArray) := by
  obtain ⟨T, hT⟩ := h
  exact ⟨⟨T, setRow_heap w b _ _ T _ hT⟩, ⟨rfl, rfl, rfl, by simp, fun k _ hne => setRow_other w b k _ (fun e => hne (by rw [e]))⟩⟩
/-- What a slice holds lies at block N or above. -/
def Above (N : Nat) (v : Value) : Prop := ∀ p m c, v = .slice (some p) m c → N ≤ p.block
theorem own_above {w : World} {base e k m : Nat} {v : Value} {cs : List Value} (h : w.ownsRow base e k v m cs) : Above base v := by
  intro p m' c hv
  obtain ⟨h1, h2⟩ := h
  rcases h2 with ⟨rfl, rfl⟩ | ⟨g, cap, cur, rfl, hb, _⟩
  · cases hv
  · cases hv; exact hb
theorem Above.nil (N : Nat) : Above N (.slice none 0 0) := fun _ _ _ h => by cases h
theorem Above.down {N N' : Nat} {v : Value} (h : Above N v) (hN : N' ≤ N) : Above N' v := fun p m c hv => Nat.le_trans hN (h p m c hv)
theorem Sl.wr_above {w w' : World} {k m b N : Nat} {v : Value} {cs : List Value} (h : Sl w k v m cs) (ha : Above N v) (hg : Wr b w w') (hb : b < N) : Sl w' k v m cs :=
  h.wr hg (fun p m' c hv _ e => by have := ha p m' c hv; omega)
/-- A slice whose cells lie in blocks from lo on, below hi. -/
def SlB (w : World) (lo hi k : Nat) (v : Value) (m : Nat) (cs : List Value) : Prop := Sl w k v m cs ∧ Above lo v ∧ SlLt hi v
theorem SlB.ext {w w' : World} {lo hi k m : Nat} {v : Value} {cs : List Value} (h : SlB w lo hi k v m cs) (hE : Ext w w') : SlB w' lo hi k v m cs := ⟨h.1.ext hE, h.2⟩
theorem SlB.wr {w w' : World} {lo hi k m b : Nat} {v : Value} {cs : List Value} (h : SlB w lo hi k v m cs) (hg : Wr b w w') (hb : b < lo ∨ hi ≤ b) : SlB w' lo hi k v m cs :=
  ⟨h.1.wr hg (fun p m' c hv hm e => by have h1 := h.2.1 p m' c hv; have h2 := h.2.2 p m' c hv hm; omega), h.2⟩
/-- The world has N blocks at least. -/
def Big (N : Nat) (w : World) : Prop := N ≤ w.heap.size
theorem Big.ext {N : Nat} {w w' : World} (h : Big N w) (hE : Ext w w') : Big N w' := Nat.le_trans h hE.size
theorem Big.wr {N b : Nat} {w w' : World} (h : Big N w) (hg : Wr b w w') (_ : 0 ≤ b) : Big N w' := Nat.le_trans h hg.size
theorem putAt_from : ∀ (r pre old : List Value), old.length = r.length → putAt (pre ++ old) pre.length r = pre ++ r
  | [], pre, old, h => by rw [List.eq_nil_of_length_eq_zero h]; rfl
  | v :: r, pre, [], h => by simp at h
  | v :: r, pre, o :: old, h => by
    have := putAt_from r (pre ++ [v]) old (by simpa using h)
    rw [putAt]
    simpa using this
theorem putAt_whole {l r : List Value} (h : l.length = r.length) : putAt l 0 r = r := by simpa using putAt_from r [] l h
/-- A slice of one struct, just made. -/
theorem own_single {w : World} {base e k : Nat} {v : Value} {l r : List Value} (h : w.ownsRow base e k v 1 (putAt l 0 r)) (hl : l.length = r.length) : Sl w k v 1 r := by
  rw [putAt_whole hl] at h
  exact own_sl h
section
variable {P : Program} [Tys P] {n : Fm} {ops : Array Oper} {Q : Exit → Act → World → Prop} {fr : Fr} {w : World} {T : TypeId}
theorem Ys.storeN {U : TypeId} {x y : Operand} {b : Nat} {cs : List Value} {a : Array Value}
    (hU : szOf P U = some a.toList.length) (hx : Fr.ev fr x = some (.pointer (some ⟨b, 0, none⟩))) (hy : Fr.ev fr y = some (.agg a)) (hB : Bx w b cs) (hl : cs.length = a.toList.length)
    (hv : ∀ c ∈ a.toList, c.oneCell' = true) : Ys P n (.store U x y) T fr w (w.setRow b a.toList.toArray) := by
  obtain ⟨TT, hT⟩ := hB
  have hrun : (storeVar U ⟨b, 0, none⟩ (.agg a)).run P w = .ok () (w.setRow b a.toList.toArray) := by
    have := run_storeCells_from (P := P) b TT a.toList 0 cs.toArray w hT (by simp only [List.size_toArray]; omega) hv
    unfold storeVar
    rw [Sem.run_bind, run_size hU]
    simp only [Result.andThen_ok, Value.cells]
    simpa using this
  exact .mk fun a' ha d pos aft g => by
    simp [execOp, Instr.storeAt, Instr.sureAddr, ha.ev hx, ha.ev hy, hrun]
/-- A struct stored over a block of one's own. -/
theorem Seg.storeN {U : TypeId} {x y : Operand} {pos : String} {aft : Array Edge} {g : Option (Nat × Bool)} {rest : List Oper} {b : Nat} {cs : List Value} {a : Array Value}
    (hg : gd ops fr g = some true) (hU : szOf P U = some a.toList.length) (hx : Fr.ev fr x = some (.pointer (some ⟨b, 0, none⟩))) (hy : Fr.ev fr y = some (.agg a)) (hB : Bx w b cs) (hl : cs.length = a.toList.length)
    (hv : ∀ c ∈ a.toList, c.oneCell' = true)
    (kk : ∀ w1, Wr b w w1 → Bx w1 b a.toList → Seg P n ops Q rest fr w1) : Seg P n ops Q (⟨none, .store U x y, T, pos, aft, g⟩ :: rest) fr w := by
  obtain ⟨h1, h2⟩ := hB.setRow a.toList
  obtain ⟨TT, hT⟩ := hB
  have hrun : (storeVar U ⟨b, 0, none⟩ (.agg a)).run P w = .ok () (w.setRow b a.toList.toArray) := by
    have := run_storeCells_from (P := P) b TT a.toList 0 cs.toArray w hT (by simp only [List.size_toArray]; omega) hv
    unfold storeVar
    rw [Sem.run_bind, run_size hU]
    simp only [Result.andThen_ok, Value.cells]
    simpa using this
  exact Seg.step0 (w' := w.setRow b a.toList.toArray) hg (.mk fun a' ha d pos aft g => by
    simp [execOp, Instr.storeAt, Instr.sureAddr, ha.ev hx, ha.ev hy, hrun]) (kk _ h2 h1)
omit [Tys P] in
/-- A part of several results. -/
theorem Yd.extract {x : Operand} {vs : List Value} {k : Nat} {v : Value} (hx : Fr.ev fr x = some (.tuple vs.toArray)) (hk : vs[k]? = some v) : Yd P n (.extract x k) T fr w v w :=
  .val fun a ha _ _ _ _ => by simp [execOp, ha.ev hx, Instr.extract, hk]
theorem Yd.eqlNilS {x y : Operand} {U U' e k : Nat} {ao : Option Addr} {l c : Nat} (hU : slOf P U = some (e, k)) (hx : Fr.ev fr x = some (.slice ao l c)) (hy : Fr.ev fr y = some (.slice none 0 0)) : Yd P n (.binOp .eql U x y U') T fr w (.bool ao.isNone) w :=
  .bin hx hy eqGuard_sl (by simp [binOp, run_equal_slice_nil w U e ao l c (und_sl hU).1])
theorem Yd.neqNilS {x y : Operand} {U U' e k : Nat} {ao : Option Addr} {l c : Nat} (hU : slOf P U = some (e, k)) (hx : Fr.ev fr x = some (.slice ao l c)) (hy : Fr.ev fr y = some (.slice none 0 0)) : Yd P n (.binOp .neq U x y U') T fr w (.bool (!ao.isNone)) w :=
  .bin hx hy eqGuard_sl (by simp [binOp, run_equal_slice_nil w U e ao l c (und_sl hU).1])
omit [Tys P] in
theorem Yd.min2 {x y : Operand} {U U' : TypeId} {k k' : IntKind} {i j : Int} (hx : Fr.ev fr x = some (.int k i)) (hy : Fr.ev fr y = some (.int k' j)) : Yd P n (.call ⟨.builtin .min, #[x, y], #[U, U']⟩) T fr w (.int k (if j < i then j else i)) w :=
  .val fun a ha d pos aft g => by
    simp [execOp, resolve, invoke, builtin, ha.ev hx, ha.ev hy, Builtin.min_, Builtin.min2]
omit [Tys P] in
theorem Yd.makeFunc {f : Fn} {first cap : List Operand} {vs us : List Value} (h1 : Fr.evs fr first = some vs) (h2 : Fr.evs fr cap = some us) : Yd P n (.makeFunc f first.toArray cap.toArray) T fr w (.func f vs.toArray us.toArray) w :=
  .val fun a ha _ _ _ _ => by
    simp [execOp, Instr.makeFunc, ha.evs h1, ha.evs h2]
omit [Tys P] in
/-- A call of a function value, its result unheeded. -/
theorem Seg.callv0 {x : Operand} {f : FuncId} {first cap : List Value} {xs : List Operand} {ats : Array TypeId} {pos : String} {aft : Array Edge} {g : Option (Nat × Bool)} {rest : List Oper} {vs : List Value} {R : Value → World → Prop}
    (hg : gd ops fr g = some true) (hv : Fr.ev fr x = some (.func (.func f) first.toArray cap.toArray)) (hf : Own P f) (hx : Fr.evs fr xs = some vs) (hc : Ret P f (first ++ vs ++ cap).toArray w R)
    (k : ∀ v w', R v w' → Seg P n ops Q rest fr w') :
    Seg P n ops Q (⟨none, .call ⟨.value x, xs.toArray, ats⟩, T, pos, aft, g⟩ :: rest) fr w := .mk fun a ha => by
  refine wpList_step fun K hK => ?_
  rw [if_pos (gd_wanted ha (o := ⟨none, .call ⟨.value x, xs.toArray, ats⟩, T, pos, aft, g⟩) hg)]
  unfold Oper.wp
  have e : (execOp a.eval ⟨none, .call ⟨.value x, xs.toArray, ats⟩, T, pos, aft, g⟩).run P w = .ok (.enter f (first ++ vs ++ cap).toArray) w := by
    simp [execOp, resolve, ha.ev hv, Deferred.ofValue, invoke, hf.run, ha.evs hx]
  rw [e]
  exact Calls.mono hc fun e' w' ⟨v, he, hv⟩ => by
    subst he
    exact hK _ _ ((k v w' hv).out _ ha)
end

/-- Operation i may be taken next. -/
structure SegP (P : Program) (n : Fm) (ops : Array Oper) (Q : Exit → Act → World → Prop) (fuel : Nat) (listed : Array Bool) (fr : Fr) (w : World) (i : Nat) : Prop where
  out : ∀ a, Fr.Of fr n a → wpOp P ops (NoPanic Q) i (wpAny P .any ops (NoPanic Q) fuel (listed.setIfInBounds i true)) a w
section
variable {P : Program} {n : Fm} {ops : Array Oper} {Q : Exit → Act → World → Prop} {fuel : Nat} {listed : Array Bool} {fr : Fr} {w : World}
theorem SegA.two {i j : Nat} (hr : Region.ready .any ops listed = [i, j]) (h1 : SegP P n ops Q fuel listed fr w i) (h2 : SegP P n ops Q fuel listed fr w j) : SegA P n ops Q (fuel + 1) listed fr w := .mk fun a ha =>
  wpAny_all hr (by simp) fun k hk => by
    simp only [List.mem_cons, List.not_mem_nil, or_false] at hk
    rcases hk with rfl | rfl
    · exact h1.out a ha
    · exact h2.out a ha
theorem SegA.one0 (i : Nat) {op : Op} {T : TypeId} {pos : String} {aft : Array Edge} {g : Option (Nat × Bool)} {w' : World}
    (hi : ops[i]? = some ⟨none, op, T, pos, aft, g⟩) (hr : Region.ready .any ops listed = [i])
    (hg : gd ops fr g = some true) (hy : Ys P n op T fr w w')
    (k : SegA P n ops Q fuel (listed.setIfInBounds i true) fr w') : SegA P n ops Q (fuel + 1) listed fr w := .mk fun a ha =>
  wpAny_all hr (by simp) fun j hj => by
    simp only [List.mem_singleton] at hj
    subst hj
    unfold wpOp
    rw [hi]
    simp only [gd_wanted ha (o := ⟨none, op, T, pos, aft, g⟩) hg, if_true]
    left
    unfold Oper.wp
    rw [hy.out a ha none pos aft g]
    exact k.out _ ha
theorem SegP.val {i d : Nat} {op : Op} {T : TypeId} {pos : String} {aft : Array Edge} {g : Option (Nat × Bool)} {v : Value} {w' : World}
    (hi : ops[i]? = some ⟨some d, op, T, pos, aft, g⟩) (hg : gd ops fr g = some true) (hd : Nat.blt d n.n = true) (hy : Yd P n op T fr w v w')
    (k : SegA P n ops Q fuel (listed.setIfInBounds i true) ((d, v) :: fr) w') : SegP P n ops Q fuel listed fr w i := .mk fun a ha => by
  unfold wpOp
  rw [hi]
  simp only [gd_wanted ha (o := ⟨some d, op, T, pos, aft, g⟩) hg, if_true]
  left
  unfold Oper.wp
  rw [hy.out a ha (some d) pos aft g]
  exact k.out _ (ha.put hd _)
theorem SegP.call {i d : Nat} {f : FuncId} {xs : List Operand} {ats : Array TypeId} {T : TypeId} {pos : String} {aft : Array Edge} {g : Option (Nat × Bool)} {vs : List Value} {R : Value → World → Prop}
    (hi : ops[i]? = some ⟨some d, .call ⟨.value (.func f), xs.toArray, ats⟩, T, pos, aft, g⟩) (hg : gd ops fr g = some true) (hd : Nat.blt d n.n = true) (hf : Own P f) (hx : Fr.evs fr xs = some vs) (hc : Ret P f vs.toArray w R)
    (k : ∀ v w', R v w' → SegA P n ops Q fuel (listed.setIfInBounds i true) ((d, v) :: fr) w') : SegP P n ops Q fuel listed fr w i := .mk fun a ha => by
  unfold wpOp
  rw [hi]
  simp only [gd_wanted ha (o := ⟨some d, .call ⟨.value (.func f), xs.toArray, ats⟩, T, pos, aft, g⟩) hg, if_true]
  left
  unfold Oper.wp
  have e : execOp a.eval ⟨some d, .call ⟨.value (.func f), xs.toArray, ats⟩, T, pos, aft, g⟩ = callFunc f (#[] ++ xs.toArray.map a.eval ++ #[]) := rfl
  rw [e, hf.run]
  have e2 : (#[] ++ xs.toArray.map a.eval ++ #[] : Array Value) = vs.toArray := by simp [ha.evs hx]
  rw [e2]
  exact Calls.mono hc fun e' w' ⟨v, he, hv⟩ => by
    subst he
    exact (k v w' hv).out _ (ha.put hd _)
theorem SegA.storeN [Tys P] (i : Nat) {U T : TypeId} {x y : Operand} {pos : String} {aft : Array Edge} {g : Option (Nat × Bool)} {b : Nat} {cs : List Value} {a : Array Value}
    (hi : ops[i]? = some ⟨none, .store U x y, T, pos, aft, g⟩) (hr : Region.ready .any ops listed = [i]) (hg : gd ops fr g = some true)
    (hU : szOf P U = some a.toList.length) (hx : Fr.ev fr x = some (.pointer (some ⟨b, 0, none⟩))) (hy : Fr.ev fr y = some (.agg a)) (hB : Bx w b cs) (hl : cs.length = a.toList.length)
    (hv : ∀ c ∈ a.toList, c.oneCell' = true) (kk : ∀ w1, Wr b w w1 → Bx w1 b a.toList → SegA P n ops Q fuel (listed.setIfInBounds i true) fr w1) : SegA P n ops Q (fuel + 1) listed fr w :=
  SegA.one0 i hi hr hg (Ys.storeN hU hx hy hB hl hv) (kk _ (hB.setRow _).2 (hB.setRow _).1)
end
end Go.Proofs.YtahpiaaffeiadaaGreat
namespace Go.Proofs.YtahpiaaffeiadaaGreat
open Go Go.RowKit
/-- A fact that the walker leaves as it is. -/
def Keep (p : Prop) : Prop := p
theorem putAt_mid : ∀ (r pre old tl : List Value), old.length = r.length → putAt (pre ++ (old ++ tl)) pre.length r = pre ++ (r ++ tl)
  | [], pre, old, tl, h => by rw [List.eq_nil_of_length_eq_zero h]; rfl
  | v :: r, pre, [], tl, h => by simp at h
  | v :: r, pre, o :: old, tl, h => by
    have := putAt_mid r (pre ++ [v]) old tl (by simpa using h)
    rw [putAt]
    simpa using this
/-- Members with their numbers. -/
def enumV : Nat → List Value → List (Nat × Value)
  | _, [] => []
  | k, v :: r => (k, v) :: enumV (k + 1) r
theorem fill_all (s m : Nat) : ∀ (vs : List Value) (k : Nat) (pre old : List Value), k + vs.length ≤ m → pre.length = k * s → old.length = vs.length * s → (∀ v ∈ vs, v.cells.size = s) →
    fillL (arPlaces m s 0) (pre ++ old) (enumV k vs) = some (pre ++ vs.flatMap zcells)
  | [], k, pre, old, _, _, ho, _ => by
    have : old = [] := List.eq_nil_of_length_eq_zero (by simpa using ho)
    subst this
    rfl
  | v :: vs, k, pre, old, hk, hp, ho, hs => by
    have hk' : k < m := by simp at hk; omega
    have hv := hs v (by simp)
    have ho' : old.length = s + vs.length * s := by rw [ho, List.length_cons, Nat.succ_mul]; omega
    rw [enumV, fillL, arPlaces_get m s 0 k hk']
    have h1 : Nat.beq v.cells.size s = true := by rw [hv]; exact Nat.beq_refl s
    have h2 : Nat.ble (0 + k * s + v.cells.size) (pre ++ old).length = true := by
      refine Nat.ble_eq_true_of_le ?_
      rw [List.length_append, hp, ho', hv]; omega
    simp only [h1, h2]
    have h3 : pre ++ old = pre ++ (old.take s ++ old.drop s) := by rw [List.take_append_drop]
    have hlv : (old.take s).length = v.cells.toList.length := by
      have : v.cells.toList.length = s := by simpa using hv
      rw [this, List.length_take]; omega
    have h4 : putAt (pre ++ old) (0 + k * s) v.cells.toList = (pre ++ v.cells.toList) ++ old.drop s := by
      rw [h3, Nat.zero_add, ← hp, putAt_mid _ _ _ _ hlv, List.append_assoc]
    rw [h4, fill_all s m vs (k + 1) (pre ++ v.cells.toList) (old.drop s) (by simp at hk; omega) (by rw [List.length_append, hp, Array.length_toList, hv, Nat.succ_mul]) (by rw [List.length_drop, ho']; omega) (fun u hu => hs u (by simp [hu]))]
    simp [zcells]
def sizesB (s : Nat) : List Value → Bool
  | [] => true
  | v :: r => match Nat.beq v.cells.size s with
    | true => sizesB s r
    | false => false
theorem sizesB_mem {s : Nat} : ∀ {vs : List Value}, sizesB s vs = true → ∀ v ∈ vs, v.cells.size = s
  | v :: r, h, u, hu => by
    unfold sizesB at h
    split at h
    · rename_i h1
      rcases List.mem_cons.1 hu with rfl | hu
      · exact Nat.eq_of_beq_eq_true h1
      · exact sizesB_mem h u hu
    · cases h
def snds : List (Nat × Operand) → List Operand
  | [] => []
  | (_, x) :: r => x :: snds r
def idxB : Nat → List (Nat × Operand) → Bool
  | _, [] => true
  | k, (i, _) :: r => match Nat.beq i k with
    | true => idxB (k + 1) r
    | false => false
theorem parts_enum {fr : Fr} : ∀ {xs : List (Nat × Operand)} {k : Nat} {vs : List Value}, idxB k xs = true → Fr.evs fr (snds xs) = some vs → Fr.parts fr xs = some (enumV k vs)
  | [], k, vs, _, h => by cases h; rfl
  | (i, x) :: r, k, vs, hi, h => by
    unfold idxB at hi
    split at hi
    · rename_i h1
      rw [snds, Fr.evs] at h
      split at h
      · rename_i v vs' h2 h3
        cases h
        rw [Fr.parts, h2, parts_enum hi h3, Nat.eq_of_beq_eq_true h1]
        rfl
      · cases h
    · cases hi
section
variable {P : Program} [Tys P] {n : Fm} {ops : Array Oper} {Q : Exit → Act → World → Prop} {fr : Fr} {w : World} {T : TypeId}
theorem Seg.buildSliceV {d : Nat} {U len e s : Nat} {xs : List (Nat × Operand)} {pos : String} {aft : Array Edge} {g : Option (Nat × Bool)} {rest : List Oper} {z : Value} {vs : List Value}
    (hg : gd ops fr g = some true) (hd : Nat.blt d n.n = true) (hf : slOf P U = some (e, s + 1)) (hz : zerOf P e = some z) (hzs : Nat.beq z.cells.size (s + 1) = true) (hlen : Nat.ble (len * (s + 1)) 16777216 = true) (hi : idxB 0 xs = true) (hx : Fr.evs fr (snds xs) = some vs)
    (hvl : Nat.beq vs.length len = true) (hvs : sizesB (s + 1) vs = true)
    (k : ∀ w1 b, Ext w w1 → Bx w1 b (vs.flatMap zcells) → w.heap.size ≤ b → w1.ownsRow w.heap.size e (s + 1) (.slice (some ⟨b, 0, none⟩) len len) len (vs.flatMap zcells) → Seg P n ops Q rest ((d, .slice (some ⟨b, 0, none⟩) len len) :: fr) w1) :
    Seg P n ops Q (⟨some d, .buildSlice U len xs.toArray, T, pos, aft, g⟩ :: rest) fr w :=
  Seg.buildSlice hg hd hf hz hzs hlen (parts_enum hi hx) (by
    have hl := Nat.eq_of_beq_eq_true hvl
    subst hl
    have := fill_all (s + 1) vs.length vs 0 [] (reps vs.length (zcells z)) (by omega) (by simp) (by rw [reps_length, show (zcells z).length = s + 1 from by simpa [zcells] using Nat.eq_of_beq_eq_true hzs]) (sizesB_mem hvs)
    simpa using this) k
omit [Tys P] in
theorem one_cells {v : Value} (h : v.oneCell' = true) : v.cells = #[v] := by cases v <;> first | rfl | cases h
theorem flat_one : ∀ {vs : List Value}, (∀ v ∈ vs, v.oneCell' = true) → vs.flatMap zcells = vs
  | [], _ => rfl
  | v :: vs, h => by
    rw [List.flatMap_cons, flat_one (fun u hu => h u (by simp [hu])), zcells, one_cells (h v (by simp))]
    rfl
theorem sizesB_one : ∀ {vs : List Value}, (∀ v ∈ vs, v.oneCell' = true) → sizesB 1 vs = true
  | [], _ => rfl
  | v :: vs, h => by
    have h1 : v.cells.size = 1 := by rw [one_cells (h v (by simp))]; rfl
    rw [sizesB, h1]
    exact sizesB_one (fun u hu => h u (by simp [hu]))
/-- A slice built of elements of one cell each. -/
theorem Seg.buildSliceO {d : Nat} {U len e : Nat} {xs : List (Nat × Operand)} {pos : String} {aft : Array Edge} {g : Option (Nat × Bool)} {rest : List Oper} {z : Value} {vs : List Value}
    (hg : gd ops fr g = some true) (hd : Nat.blt d n.n = true) (hf : slOf P U = some (e, 0 + 1)) (hz : zerOf P e = some z) (hzs : Nat.beq z.cells.size (0 + 1) = true) (hlen : Nat.ble (len * (0 + 1)) 16777216 = true) (hi : idxB 0 xs = true) (hx : Fr.evs fr (snds xs) = some vs)
    (hvl : Nat.beq vs.length len = true) (hvs : ∀ v ∈ vs, v.oneCell' = true)
    (k : ∀ w1 b, Ext w w1 → Bx w1 b vs → w.heap.size ≤ b → w1.ownsRow w.heap.size e (0 + 1) (.slice (some ⟨b, 0, none⟩) len len) len vs → Seg P n ops Q rest ((d, .slice (some ⟨b, 0, none⟩) len len) :: fr) w1) :
    Seg P n ops Q (⟨some d, .buildSlice U len xs.toArray, T, pos, aft, g⟩ :: rest) fr w :=
  Seg.buildSliceV hg hd hf hz hzs hlen hi hx hvl (sizesB_one hvs) (by rw [flat_one hvs]; exact k)
end
/-- A part put in its place, quickly told. -/
def fillT (N : Nat) (fl : List (Nat × Nat)) : List Value → List (Nat × Value) → Option (List Value)
  | cs, [] => some cs
  | cs, (i, v) :: rest => match fl[i]? with
    | none => none
    | some (o, s) => match Nat.beq v.cells.size s, Nat.ble (o + s) N with
      | true, true => fillT N fl (cs.take o ++ (v.cells.toList ++ cs.drop (o + s))) rest
      | _, _ => none
theorem putAt_cut {cs r : List Value} {o : Nat} (h : o + r.length ≤ cs.length) : putAt cs o r = cs.take o ++ (r ++ cs.drop (o + r.length)) := by
  have h1 : cs = cs.take o ++ ((cs.drop o).take r.length ++ (cs.drop o).drop r.length) := by
    rw [List.take_append_drop, List.take_append_drop]
  have h2 := putAt_mid r (cs.take o) ((cs.drop o).take r.length) ((cs.drop o).drop r.length) (by rw [List.length_take, List.length_drop]; omega)
  rw [← h1, List.length_take, show min o cs.length = o by omega] at h2
  rw [h2, List.drop_drop]
theorem fillT_L (N : Nat) (fl : List (Nat × Nat)) : ∀ (parts : List (Nat × Value)) (cs cs' : List Value), cs.length = N → fillT N fl cs parts = some cs' → fillL fl cs parts = some cs'
  | [], cs, cs', _, h => h
  | (i, v) :: rest, cs, cs', hN, h => by
    unfold fillT at h
    unfold fillL
    split at h
    · cases h
    · rename_i o s hf
      rw [hf]
      split at h
      · rename_i h1 h2
        have h1' := Nat.eq_of_beq_eq_true h1
        have h2' := Nat.le_of_ble_eq_true h2
        have hv : v.cells.toList.length = s := by simpa using h1'
        have h3 : Nat.ble (o + v.cells.size) cs.length = true := Nat.ble_eq_true_of_le (by omega)
        simp only [h1, h3]
        have h4 := putAt_cut (cs := cs) (r := v.cells.toList) (o := o) (by omega)
        rw [hv] at h4
        rw [h4]
        refine fillT_L N fl rest _ cs' ?_ h
        rw [List.length_append, List.length_append, List.length_take, List.length_drop, hv]
        omega
      · cases h
section
variable {P : Program} [Tys P] {n : Fm} {fr : Fr} {w : World} {T : TypeId}
theorem Yd.buildT {U : TypeId} {xs : List (Nat × Operand)} {p : Nat × Nat} {fl : List (Nat × Nat)} {z : Value} {parts : List (Nat × Value)} {cs : List Value} (N : Nat) (hf : fldsOf P U = some (p :: fl)) (hz : zerOf P U = some z) (hN : Nat.beq (zcells z).length N = true) (hx : Fr.parts fr xs = some parts)
    (hc : fillT N (p :: fl) (zcells z) parts = some cs) : Yd P n (.build U xs.toArray) T fr w (.agg cs.toArray) w :=
  .build hf hz hx (fillT_L N _ _ _ _ (Nat.eq_of_beq_eq_true hN) hc)
theorem Yd.buildArrT {U : TypeId} {xs : List (Nat × Operand)} {m e s : Nat} {z : Value} {parts : List (Nat × Value)} {cs : List Value} (N : Nat) (hf : arOf P U = some (m, e, s)) (hz : zerOf P U = some z) (hN : Nat.beq (zcells z).length N = true) (hx : Fr.parts fr xs = some parts)
    (hc : fillT N (arPlaces m s 0) (zcells z) parts = some cs) : Yd P n (.build U xs.toArray) T fr w (.agg cs.toArray) w :=
  .buildArr hf hz hx (fillT_L N _ _ _ _ (Nat.eq_of_beq_eq_true hN) hc)
/-- An element of an array that lies within something. -/
theorem Yd.indexArr1' {x y : Operand} {p : Addr} {len j : Nat} {U e : Nat} {q : IntKind} {i : Int} {k : Nat} (hU : arOf P U = some (len, e, 1)) (hx : Fr.ev fr x = some (.pointer (some (p.add j)))) (hy : Fr.ev fr y = some (.int q i)) (hk : NatOf i k) (h1 : k < len) :
    Yd P n (.indexAddr U x y) T fr w (.pointer (some (p.add (j + k)))) w := by
  rw [← Deep.add_add]; exact .indexArr1 hU hx hy hk h1
theorem Yd.indexArr' {x y : Operand} {p : Addr} {len j : Nat} {U e s : Nat} {q : IntKind} {i : Int} {k : Nat} (hU : arOf P U = some (len, e, s)) (hx : Fr.ev fr x = some (.pointer (some (p.add j)))) (hy : Fr.ev fr y = some (.int q i)) (hk : NatOf i k) (h1 : k < len) :
    Yd P n (.indexAddr U x y) T fr w (.pointer (some (p.add (j + k * s)))) w := by
  rw [← Deep.add_add]; exact .indexArr hU hx hy hk h1
end
end Go.Proofs.YtahpiaaffeiadaaGreat
namespace Go.Proofs.YtahpiaaffeiadaaGreat
open Go Go.RowKit
section
variable {P : Program} {n : Fm} {fr : Fr} {w : World} {T U U' : TypeId} {x y : Operand}
theorem run_equal_lits {a b : Value} {L M : List Lit} {D : Nat} {p : Prop} [Decidable p] (hp : L = M ↔ p) (hk : P.keyTypeAt 50 U = true) (fa : a.formed P U = true) (fb : b.formed P U = true) (ka : P.keyLits D U a.cells.toList = some L) (kb : P.keyLits D U b.cells.toList = some M) :
    (Op.equal U a b).run P w = .ok (decide p) w := by
  obtain ⟨r, h1, h2⟩ := run_equalIn_deep (P := P) (10000 - 50) 50 U hk w D D a b L M fa fb ka kb
  have : r = decide p := by
    rw [Bool.eq_iff_iff, h2, hp]; simp
  rw [← this]
  exact h1
theorem eqGuard_agg {op : BinOp} {as bs : Array Value} (hg : P.eqGuardType P.depth U = false) : (eqGuard op U x y (.agg as) (.agg bs)).run P w = .ok () w := by
  cases op <;> simp [eqGuard, hg]
/-- Structs compared: by their literals. -/
theorem Yd.eqlD {as bs : Array Value} {L M : List Lit} {D : Nat} {p : Prop} [Decidable p] (hx : Fr.ev fr x = some (.agg as)) (hy : Fr.ev fr y = some (.agg bs)) (hg : P.eqGuardType P.depth U = false) (hk : P.keyTypeAt 50 U = true) (fa : (Value.agg as).formed P U = true) (fb : (Value.agg bs).formed P U = true)
    (ka : P.keyLits D U as.toList = some L) (kb : P.keyLits D U bs.toList = some M) (hp : L = M ↔ p) : Yd P n (.binOp .eql U x y U') T fr w (.bool (decide p)) w :=
  .bin hx hy (eqGuard_agg hg) (by simp [binOp, run_equal_lits hp hk fa fb ka kb])
theorem Yd.neqD {as bs : Array Value} {L M : List Lit} {D : Nat} {p : Prop} [Decidable p] (hx : Fr.ev fr x = some (.agg as)) (hy : Fr.ev fr y = some (.agg bs)) (hg : P.eqGuardType P.depth U = false) (hk : P.keyTypeAt 50 U = true) (fa : (Value.agg as).formed P U = true) (fb : (Value.agg bs).formed P U = true)
    (ka : P.keyLits D U as.toList = some L) (kb : P.keyLits D U bs.toList = some M) (hp : L = M ↔ p) : Yd P n (.binOp .neq U x y U') T fr w (.bool (decide (¬ p))) w :=
  .bin hx hy (eqGuard_agg hg) (by simp [binOp, run_equal_lits hp hk fa fb ka kb])
end
/-- A part of a slice. -/
theorem Sl.cut {w : World} {k m c lo hi : Nat} {ao : Option Addr} {cs : List Value} (h : Sl w k (.slice ao m c) m cs) (h1 : lo ≤ hi) (h2 : hi ≤ m) (h3 : m ≤ c) : Sl w k (sliced ao lo hi c k) (hi - lo) ((cs.drop (lo * k)).take ((hi - lo) * k)) := by
  obtain ⟨ao', c', he, hl, hr, hz⟩ := h
  cases he
  have hlen : ((cs.drop (lo * k)).take ((hi - lo) * k)).length = (hi - lo) * k := by
    rw [List.length_take, List.length_drop, hl, Nat.sub_mul]
    have : hi * k ≤ m * k := Nat.mul_le_mul_right k h2
    omega
  refine ⟨_, _, rfl, hlen, fun a ha => ?_, fun ha => ?_⟩
  · split at ha
    · rename_i hc
      have h0 : hi - lo = 0 := by omega
      have : (cs.drop (lo * k)).take ((hi - lo) * k) = [] := List.eq_nil_of_length_eq_zero (by rw [hlen, h0, Nat.zero_mul])
      rw [this]
      intro j v hj; simp at hj
    · cases ao with
      | none => cases ha
      | some b =>
        cases ha
        exact (hr b rfl).part (lo * k) ((hi - lo) * k)
  · split at ha
    · have := hz ha; omega
    · cases ao with
      | none => have := hz rfl; omega
      | some b => cases ha
end Go.Proofs.YtahpiaaffeiadaaGreat
namespace Go.Proofs.YtahpiaaffeiadaaGreat
open Go Go.RowKit
/-- The head of such a region: it reads the world w. -/
structure SegS (P : Program) (n : Fm) (ops : Array Oper) (w : World) (K : Act → Prop) (l : List Oper) (fr : Fr) : Prop where
  out : ∀ a, Fr.Of fr n a → wpStill P ops w K l a
section
variable {P : Program} {n : Fm} {ops : Array Oper} {K : Act → Prop} {Q : Exit → Act → World → Prop} {fr : Fr} {w : World}
theorem SegS.step {d : Nat} {op : Op} {T : TypeId} {pos : String} {aft : Array Edge} {g : Option (Nat × Bool)} {rest : List Oper} {v : Value}
    (hg : gd ops fr g = some true) (hd : Nat.blt d n.n = true) (hy : Yd P n op T fr w v w) (k : SegS P n ops w K rest ((d, v) :: fr)) :
    SegS P n ops w K (⟨some d, op, T, pos, aft, g⟩ :: rest) fr := .mk fun a ha => by
  refine wpStill_step fun K' hK => ?_
  rw [if_pos (gd_wanted ha (o := ⟨some d, op, T, pos, aft, g⟩) hg)]
  unfold Oper.still
  rw [hy.out a ha (some d) pos aft g]
  exact ⟨rfl, hK _ (k.out _ (ha.put hd _))⟩
theorem SegS.skip {d : Nat} {op : Op} {T : TypeId} {pos : String} {aft : Array Edge} {g : Option (Nat × Bool)} {rest : List Oper}
    (hg : gd ops fr g = some false) (hd : Nat.blt d n.n = true) (k : SegS P n ops w K rest ((d, undef) :: fr)) :
    SegS P n ops w K (⟨some d, op, T, pos, aft, g⟩ :: rest) fr := .mk fun a ha => by
  refine wpStill_step fun K' hK => ?_
  rw [if_neg (by rw [gd_wanted ha (o := ⟨some d, op, T, pos, aft, g⟩) hg]; simp)]
  exact hK _ (k.out _ (ha.put hd _))
theorem SegS.nil {t : List Oper} (h : Seg P n ops Q t fr w) : SegS P n ops w (fun a => wpList P ops Q t a w) [] fr := .mk fun a ha => h.out a ha
theorem Cd.still (k : Nat) {id : Nat} {l : List Oper} (hm : P.follows .mixedOrders = true) (hB : Region.lexTailB .any l.toArray k = true)
    (h : ∀ w1, Ext w w1 → SegS P n l.toArray w1 (fun a => wpList P l.toArray Q (l.drop k) a w1) (l.take k) fr) : Cd P n Q (.region id l.toArray true) fr w := .mk fun a ha =>
  wp_region_still_tail k hm hB ((h w.drew (Ext.drew w)).out a ha)
end
end Go.Proofs.YtahpiaaffeiadaaGreat
