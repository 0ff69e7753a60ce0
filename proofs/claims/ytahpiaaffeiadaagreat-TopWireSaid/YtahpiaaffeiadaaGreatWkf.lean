/- Walk rules, part five: regions that draw their order and whose calls write; integers; nil; stores; worlds in which one block was written. -/
import Derived.Test.YtahpiaaffeiadaaGreatWkc
import Derived.Deep.RegionHeld3
namespace Go.Proofs.YtahpiaaffeiadaaGreat
open Go Go.RowKit

/-- From every frame as fr tells: whatever order is picked from here on, those of 'listed' being done. -/
structure SegA (P : Program) (n : Fm) (ops : Array Oper) (Q : Exit → Act → World → Prop) (fuel : Nat) (listed : Array Bool) (fr : Fr) (w : World) : Prop where
  out : ∀ a, Fr.Of fr n a → wpAny P .any ops (NoPanic Q) fuel listed a w

section
variable {P : Program} {n : Fm} {ops : Array Oper} {Q : Exit → Act → World → Prop} {fuel : Nat} {listed : Array Bool} {fr : Fr} {w : World}

theorem Cd.any {id : Nat} {l : List Oper} (hm : P.follows .mixedOrders = true) (h : SegA P n l.toArray Q l.length (Array.replicate l.length false) fr w.drew) : Cd P n Q (.region id l.toArray true) fr w := .mk fun _ ha =>
  wp_region_noPanic (wp_region_any hm (by simpa using h.out _ ha))

/-- An operation that looks at the frame alone is taken first. -/
theorem SegA.pure (i : Nat) {d : Nat} {op : Op} {T : TypeId} {pos : String} {aft : Array Edge} {g : Option (Nat × Bool)} {v : Value}
    (hi : ops[i]? = some ⟨some d, op, T, pos, aft, g⟩) (hs : Region.noSelect ops = true) (hf : Region.free .any ops listed i = true) (hr : (Region.ready .any ops listed).contains i = true)
    (hg : gd ops fr g = some true) (hd : Nat.blt d n.n = true) (hy : ∀ w, Yd P n op T fr w v w)
    (k : SegA P n ops Q fuel (listed.setIfInBounds i true) ((d, v) :: fr) w) : SegA P n ops Q (fuel + 1) listed fr w := .mk fun a ha =>
  wpAny_take hi hs hf hr (fun _ _ _ h => h) (.inl ⟨gd_wanted ha (o := ⟨some d, op, T, pos, aft, g⟩) hg, fun w => (hy w).out a ha _ _ _ _⟩) (k.out _ (ha.put hd _))
theorem SegA.skip (i : Nat) {d : Nat} {op : Op} {T : TypeId} {pos : String} {aft : Array Edge} {g : Option (Nat × Bool)}
    (hi : ops[i]? = some ⟨some d, op, T, pos, aft, g⟩) (hs : Region.noSelect ops = true) (hf : Region.free .any ops listed i = true) (hr : (Region.ready .any ops listed).contains i = true)
    (hg : gd ops fr g = some false) (hd : Nat.blt d n.n = true)
    (k : SegA P n ops Q fuel (listed.setIfInBounds i true) ((d, undef) :: fr) w) : SegA P n ops Q (fuel + 1) listed fr w := .mk fun _ ha =>
  wpAny_take hi hs hf hr (fun _ _ _ h => h) (.inr ⟨gd_wanted ha (o := ⟨some d, op, T, pos, aft, g⟩) hg, rfl⟩) (k.out _ (ha.put hd _))
/-- An operation that stands alone: no other may come up now. -/
theorem SegA.one (i : Nat) {d : Nat} {op : Op} {T : TypeId} {pos : String} {aft : Array Edge} {g : Option (Nat × Bool)} {v : Value} {w' : World}
    (hi : ops[i]? = some ⟨some d, op, T, pos, aft, g⟩) (hr : Region.ready .any ops listed = [i])
    (hg : gd ops fr g = some true) (hd : Nat.blt d n.n = true) (hy : Yd P n op T fr w v w')
    (k : SegA P n ops Q fuel (listed.setIfInBounds i true) ((d, v) :: fr) w') : SegA P n ops Q (fuel + 1) listed fr w := .mk fun a ha =>
  wpAny_all hr (by simp) fun j hj => by
    simp only [List.mem_singleton] at hj
    subst hj
    unfold wpOp
    rw [hi]
    simp only [gd_wanted ha (o := ⟨some d, op, T, pos, aft, g⟩) hg, if_true]
    left
    unfold Oper.wp
    rw [hy.out a ha (some d) pos aft g]
    exact k.out _ (ha.put hd _)
theorem SegA.oneCall (i : Nat) {d : Nat} {f : FuncId} {xs : List Operand} {ats : Array TypeId} {T : TypeId} {pos : String} {aft : Array Edge} {g : Option (Nat × Bool)} {vs : List Value} {R : Value → World → Prop}
    (hi : ops[i]? = some ⟨some d, .call ⟨.value (.func f), xs.toArray, ats⟩, T, pos, aft, g⟩) (hr : Region.ready .any ops listed = [i])
    (hg : gd ops fr g = some true) (hd : Nat.blt d n.n = true) (hf : Own P f) (hx : Fr.evs fr xs = some vs) (hc : Ret P f vs.toArray w R)
    (k : ∀ v w', R v w' → SegA P n ops Q fuel (listed.setIfInBounds i true) ((d, v) :: fr) w') : SegA P n ops Q (fuel + 1) listed fr w := .mk fun a ha =>
  wpAny_all hr (by simp) fun j hj => by
    simp only [List.mem_singleton] at hj
    subst hj
    unfold wpOp
    rw [hi]
    simp only [gd_wanted ha (o := ⟨some d, .call ⟨.value (.func f), xs.toArray, ats⟩, T, pos, aft, g⟩) hg, if_true]
    left
    unfold Oper.wp
    have e : execOp a.eval ⟨some d, .call ⟨.value (.func f), xs.toArray, ats⟩, T, pos, aft, g⟩ = callFunc f (#[] ++ xs.toArray.map a.eval ++ #[]) := rfl
    rw [e, hf.run]
    have e2 : (#[] ++ xs.toArray.map a.eval ++ #[] : Array Value) = vs.toArray := by simp [ha.evs hx]
    rw [e2]
    exact Calls.mono hc fun e' w' ⟨v, he, hv⟩ => by
      subst he
      exact (k v w' hv).out _ (ha.put hd _)
theorem SegA.done (hr : Region.ready .any ops listed = []) (h : At n Q .normal fr w) : SegA P n ops Q fuel listed fr w := .mk fun a ha => wpAny_done hr (Q := NoPanic Q) (h.out a ha) _
/-- What is left reads, or calls, in any world of a class: walked in the order of the text. -/
theorem SegA.quiet (C : World → Prop) (k : Nat) {l : List Oper} (hl : ops.toList.drop k = l) (hs : Region.noSelect ops = true) (hB : Region.lexFrom .any ops l.length k listed = true) (hC : C w)
    (h : SegQ P n ops C (fun a => ∀ w, C w → Q .normal a w) l fr) : SegA P n ops Q l.length listed fr w := .mk fun a ha => by
  refine wpAny_of_quiet (C := C) (Q' := NoPanic Q) (Q := fun a => ∀ w, C w → Q .normal a w) (fun _ w hw h => h w hw) _ _ _ _ hC ?_
  exact wpAnyQ_lex hs l k listed a (fun j => by rw [← hl]; simp) hB (h.out a ha)
end

/-! ### Comparisons with nil; Bools; conversions; remainders -/
section
variable {P : Program} [Tys P] {n : Fm} {fr : Fr} {w w' : World} {T U U' : TypeId} {x y : Operand}

omit [Tys P] in
theorem eqGuard_ptr {op : BinOp} {p q : Option Addr} : (eqGuard op U x y (.pointer p) (.pointer q)).run P w = .ok () w := by
  cases op <;> simp [eqGuard]
omit [Tys P] in
theorem eqGuard_sl {op : BinOp} {p q : Option Addr} {a b c d : Nat} : (eqGuard op U x y (.slice p a b) (.slice q c d)).run P w = .ok () w := by
  cases op <;> simp [eqGuard]
theorem Yd.eqlNilP {e : Nat} {p : Option Addr} (hU : ptrOf P U = some e) (hx : Fr.ev fr x = some (.pointer p)) (hy : Fr.ev fr y = some (.pointer none)) : Yd P n (.binOp .eql U x y U') T fr w (.bool p.isNone) w :=
  .bin hx hy eqGuard_ptr (by
    have h := und_ptr hU
    have e1 : P.pointee U = e := by simp [Program.pointee, h]
    exact run_eql_pointer_nil w U p (by rw [e1]; exact h))
theorem Yd.neqNilP {e : Nat} {p : Option Addr} (hU : ptrOf P U = some e) (hx : Fr.ev fr x = some (.pointer p)) (hy : Fr.ev fr y = some (.pointer none)) : Yd P n (.binOp .neq U x y U') T fr w (.bool (!p.isNone)) w :=
  .bin hx hy eqGuard_ptr (by
    have h := und_ptr hU
    have e1 : P.pointee U = e := by simp [Program.pointee, h]
    exact run_neq_pointer_nil w U p (by rw [e1]; exact h))
theorem Yd.eqlB {p q : Bool} (hU : boolOf P U = some true) (hx : Fr.ev fr x = some (.bool p)) (hy : Fr.ev fr y = some (.bool q)) : Yd P n (.binOp .eql U x y U') T fr w (.bool (p == q)) w :=
  .bin hx hy eqGuard_bool (run_eql_bool w U p q (und_bool hU))
theorem Yd.neqB {p q : Bool} (hU : boolOf P U = some true) (hx : Fr.ev fr x = some (.bool p)) (hy : Fr.ev fr y = some (.bool q)) : Yd P n (.binOp .neq U x y U') T fr w (.bool (p != q)) w :=
  .bin hx hy eqGuard_bool (run_neq_bool w U p q (und_bool hU))

theorem Yd.convI {S D : TypeId} {k k' : IntKind} {i : Int} (hS : kindOf P S = some k') (hD : kindOf P D = some k) (hx : Fr.ev fr x = some (.int k' i)) : Yd P n (.convert S D x) T fr w (.int k (k.wrap i)) w :=
  .val fun a ha _ _ _ _ => by simp [execOp, convert, run_underlying (und_kind hS), run_underlying (und_kind hD), ha.ev hx, Conv.intToInt]
/-- A conversion that keeps the number. -/
theorem Yd.convN {S D : TypeId} {k k' : IntKind} {i : Int} (hS : kindOf P S = some k') (hD : kindOf P D = some k) (hx : Fr.ev fr x = some (.int k' i)) (hw : k.wrap i = i) : Yd P n (.convert S D x) T fr w (.int k i) w := by
  have := Yd.convI (P := P) (n := n) (w := w) (T := T) hS hD hx
  rwa [hw] at this
end

section
variable {P : Program} {n : Fm} {fr : Fr} {w w' : World} {T U U' : TypeId} {x y : Operand} {k : IntKind} {i j : Int}
theorem Yd.rem (hx : Fr.ev fr x = some (.int k i)) (hy : Fr.ev fr y = some (.int k j)) (hj : j ≠ 0) : Yd P n (.binOp .rem U x y U') T fr w (.int k (i.tmod j)) w :=
  .bin hx hy eqGuard_int (by simp [binOp, Op.intDiv, hj])
theorem Yd.remN (hx : Fr.ev fr x = some (.int k i)) (hy : Fr.ev fr y = some (.int k j)) (hi : 0 ≤ i) (hj : 0 < j) : Yd P n (.binOp .rem U x y U') T fr w (.int k (i % j)) w := by
  have := Yd.rem (P := P) (n := n) (w := w) (T := T) (U := U) (U' := U') hx hy (by omega)
  rwa [Int.tmod_eq_emod_of_nonneg hi] at this
theorem Yd.quo (hx : Fr.ev fr x = some (.int k i)) (hy : Fr.ev fr y = some (.int k j)) (hj : j ≠ 0) : Yd P n (.binOp .quo U x y U') T fr w (.int k (k.wrap (i.tdiv j))) w :=
  .bin hx hy eqGuard_int (by simp [binOp, Op.intDiv, hj])
end

/-! ### One block written -/
/-- From w to w' one block alone was written (and new ones made). -/
abbrev Wr (b : Nat) (w w' : World) : Prop := w.grownBy w' (some b)
theorem Ext.wr {w w' : World} (h : Ext w w') (b : Nat) : Wr b w w' := ⟨h.os, h.tape, h.output, h.size, fun k hk _ => h.block k hk⟩
theorem Wr.trans {b : Nat} {u v w : World} (h : Wr b u v) (k : Wr b v w) : Wr b u w :=
  ⟨k.os.trans h.os, k.tape.trans h.tape, k.output.trans h.output, Nat.le_trans h.size k.size, fun i hi hb => (k.block i (Nat.lt_of_lt_of_le hi h.size) hb).trans (h.block i hi hb)⟩
theorem grown_ext {w w' : World} (h : w.grownBy w' none) : Ext w w' := ⟨h.os, h.tape, h.output, h.size, fun k hk => h.block k hk (by simp)⟩
theorem Row.grown {w w' : World} {row : Option Nat} {p : Addr} {cs : List Value} (h : Row w p cs) (hg : w.grownBy w' row) (hne : some p.block ≠ row) : Row w' p cs := fun j v hj => by
  have h1 := h j v hj
  have hb : (p.add j).block = p.block := by unfold Addr.add; split <;> rfl
  exact hg.cell h1 (by rw [hb]; exact hne)
theorem Bx.grown {w w' : World} {row : Option Nat} {c : Nat} {cs : List Value} (h : Bx w c cs) (hg : w.grownBy w' row) (hne : some c ≠ row) : Bx w' c cs := by
  have hlt := h.lt
  obtain ⟨T, hT⟩ := h
  exact ⟨T, by rw [hg.block c hlt hne]; exact hT⟩
theorem Below.grown' {B : Nat} {a w w' : World} {row : Option Nat} (h : Below B a w) (hg : w.grownBy w' row) (hB : B ≤ w.heap.size) (hr : ∀ k, row = some k → B ≤ k) : Below B a w' := h.grown hg hB hr
theorem Row.wr {w w' : World} {b : Nat} {p : Addr} {cs : List Value} (h : Row w p cs) (hg : Wr b w w') (hne : p.block ≠ b) : Row w' p cs := h.grown hg (by simpa using hne)
theorem Bx.wr {w w' : World} {b c : Nat} {cs : List Value} (h : Bx w c cs) (hg : Wr b w w') (hne : c ≠ b) : Bx w' c cs := h.grown hg (by simpa using hne)
theorem Ext.wr' {a w w' : World} {b : Nat} (h : Ext a w) (hg : Wr b w w') (hb : a.heap.size ≤ b) : Ext a w' := Below.grown h hg h.size (fun k hk => by cases hk; exact hb)

theorem Bx.frozen {w : World} {b : Nat} {cs : List Value} (h : Bx w b cs) (j : Nat) : w.frozen? ⟨b, j, none⟩ = false := by
  obtain ⟨T, hT⟩ := h
  exact frozen_of_row w b j cs.toArray T hT
theorem Bx.set {w : World} {b : Nat} {cs : List Value} (h : Bx w b cs) (k : Nat) (v : Value) : Bx (w.setCell ⟨b, k, none⟩ v) b (cs.set k v) ∧ Wr b w (w.setCell ⟨b, k, none⟩ v) := by
  obtain ⟨T, hT⟩ := h
  refine ⟨⟨T, by rw [heap_setCell_same w b k cs.toArray T v hT]; simp⟩, ⟨rfl, rfl, rfl, by simp, fun i _ hi => heap_setCell_other w _ i v (fun e => hi (by rw [e]))⟩⟩

section
variable {P : Program} [Tys P] {n : Fm} {ops : Array Oper} {Q : Exit → Act → World → Prop} {fr : Fr} {w : World}
theorem addr_lit (b k : Nat) : (Addr.add ⟨b, 0, none⟩ k) = ⟨b, k, none⟩ := by unfold Addr.add; split <;> simp_all
theorem run_store1 {U : TypeId} {b k : Nat} {cs : List Value} {v : Value} (hU : szOf P U = some 1) (hv : v.oneCell' = true) (hB : Bx w b cs) (hk : k < cs.length) : (storeVar U (Addr.add ⟨b, 0, none⟩ k) v).run P w = .ok () (w.setCell ⟨b, k, none⟩ v) := by
  have hc : v.cells = #[v] := by cases v <;> first | rfl | cases hv
  have hcell := hB.row k cs[k] (by simp [hk])
  rw [addr_lit] at hcell ⊢
  have hf := hB.frozen k
  unfold storeVar
  rw [Sem.run_bind, run_size hU]
  simp only [Result.andThen_ok, hc]
  simp only [List.size_toArray, List.length_cons, List.length_nil, Nat.zero_add, ne_eq, not_true_eq_false, if_false]
  simp [storeCells, Addr.add0, run_store P w _ v _ hv, hcell, hf]
/-- A store into a cell of a block of one's own. -/
theorem Seg.store1 {U : TypeId} {x y : Operand} {T : TypeId} {pos : String} {aft : Array Edge} {g : Option (Nat × Bool)} {rest : List Oper} {b k : Nat} {cs : List Value} {v : Value}
    (hg : gd ops fr g = some true) (hU : szOf P U = some 1) (hx : Fr.ev fr x = some (.pointer (some (Addr.add ⟨b, 0, none⟩ k)))) (hy : Fr.ev fr y = some v) (hv : v.oneCell' = true) (hB : Bx w b cs) (hk : k < cs.length)
    (kk : ∀ w1, Wr b w w1 → Bx w1 b (cs.set k v) → Seg P n ops Q rest fr w1) : Seg P n ops Q (⟨none, .store U x y, T, pos, aft, g⟩ :: rest) fr w :=
  Seg.step0 (w' := w.setCell ⟨b, k, none⟩ v) hg (.mk fun a ha d pos aft g => by
    simp [execOp, Instr.storeAt, Instr.sureAddr, ha.ev hx, ha.ev hy, run_store1 hU hv hB hk]) (kk _ (hB.set k v).2 (hB.set k v).1)
theorem Seg.store1h {U : TypeId} {x y : Operand} {T : TypeId} {pos : String} {aft : Array Edge} {g : Option (Nat × Bool)} {rest : List Oper} {b : Nat} {cs : List Value} {v : Value}
    (hg : gd ops fr g = some true) (hU : szOf P U = some 1) (hx : Fr.ev fr x = some (.pointer (some ⟨b, 0, none⟩))) (hy : Fr.ev fr y = some v) (hv : v.oneCell' = true) (hB : Bx w b cs) (hk : 0 < cs.length)
    (kk : ∀ w1, Wr b w w1 → Bx w1 b (cs.set 0 v) → Seg P n ops Q rest fr w1) : Seg P n ops Q (⟨none, .store U x y, T, pos, aft, g⟩ :: rest) fr w :=
  Seg.store1 (k := 0) hg hU (by rw [hx, addr_lit]) hy hv hB hk kk
end

/-! ### Slices -/
/-- The slice value v has m elements of k cells each; these are its cells. -/
def Sl (w : World) (k : Nat) (v : Value) (m : Nat) (cs : List Value) : Prop := ∃ ao c, v = .slice ao m c ∧ cs.length = m * k ∧ (∀ a, ao = some a → Row w a cs) ∧ (ao = none → m = 0)
theorem Sl.ext {w w' : World} {k : Nat} {v : Value} {m : Nat} {cs : List Value} (h : Sl w k v m cs) (hE : Ext w w') : Sl w' k v m cs := by
  obtain ⟨ao, c, rfl, h1, h2, h3⟩ := h
  exact ⟨ao, c, rfl, h1, fun a ha => (h2 a ha).ext hE, h3⟩
theorem Sl.nil (w : World) (k : Nat) : Sl w k (.slice none 0 0) 0 [] := ⟨none, 0, rfl, by simp, fun _ h => (by cases h), fun _ => rfl⟩
/-- A slice's cells lie below block K. -/
def SlLt (K : Nat) (v : Value) : Prop := ∀ p m c, v = .slice (some p) m c → 0 < m → p.block < K
/-- A slice's cells do not lie in block b. -/
def SlOff (b : Nat) (v : Value) : Prop := ∀ p m c, v = .slice (some p) m c → 0 < m → p.block ≠ b
theorem SlLt.off {K b : Nat} {v : Value} (h : SlLt K v) (hb : K ≤ b) : SlOff b v := fun p m c hv hm => by have := h p m c hv hm; omega
theorem SlLt.le {K K' : Nat} {v : Value} (h : SlLt K v) (hb : K ≤ K') : SlLt K' v := fun p m c hv hm => Nat.lt_of_lt_of_le (h p m c hv hm) hb
theorem Sl.lt {w : World} {k : Nat} {v : Value} {m : Nat} {cs : List Value} (h : Sl w (k + 1) v m cs) : SlLt w.heap.size v := fun p m' c hv hm => by
  obtain ⟨ao, c', rfl, h1, h2, h3⟩ := h
  cases hv
  have hr := h2 p rfl
  have hl : 0 < cs.length := by rw [h1]; exact Nat.mul_pos hm (Nat.succ_pos k)
  have := cell_lt (hr 0 cs[0] (by simp [hl]))
  rwa [Addr.add0] at this
theorem Sl.wr {w w' : World} {b k : Nat} {v : Value} {m : Nat} {cs : List Value} (h : Sl w k v m cs) (hg : Wr b w w') (hne : SlOff b v) : Sl w' k v m cs := by
  obtain ⟨ao, c, rfl, h1, h2, h3⟩ := h
  refine ⟨ao, c, rfl, h1, fun a ha => ?_, h3⟩
  by_cases hm : m = 0
  · subst hm
    have : cs = [] := List.eq_nil_of_length_eq_zero (by simpa using h1)
    subst this
    intro j v hj; simp at hj
  · subst ha
    exact (h2 a rfl).wr hg (hne a m c rfl (by omega))
theorem Sl.grown {w w' : World} {row : Option Nat} {k : Nat} {v : Value} {m : Nat} {cs : List Value} (h : Sl w k v m cs) (hg : w.grownBy w' row) (hne : ∀ p c, v = .slice (some p) m c → some p.block ≠ row) : Sl w' k v m cs := by
  obtain ⟨ao, c, rfl, h1, h2, h3⟩ := h
  exact ⟨ao, c, rfl, h1, fun a ha => (h2 a ha).grown hg (hne a c (by rw [ha])), h3⟩
theorem own_sl {w : World} {base e k m : Nat} {v : Value} {cs : List Value} (h : w.ownsRow base e k v m cs) : Sl w k v m cs := by
  obtain ⟨h1, h2⟩ := h
  rcases h2 with ⟨rfl, rfl⟩ | ⟨g, cap, cur, rfl, hb, hh, hn, hc, hs, ht⟩
  · exact ⟨none, 0, rfl, h1, fun _ h => (by cases h), fun _ => rfl⟩
  · refine ⟨some ⟨g, 0, none⟩, cap, rfl, h1, fun a ha => ?_, fun h => by cases h⟩
    cases ha
    intro j v hj
    rw [addr_lit]
    rw [← ht, List.getElem?_take] at hj
    split at hj
    · simpa [World.cell?, hh] using hj
    · cases hj
theorem own_shape {w : World} {base e k m : Nat} {v : Value} {cs : List Value} (h : w.ownsRow base e k v m cs) : ∃ ao c, v = .slice ao m c := by
  obtain ⟨_, h2⟩ := h
  rcases h2 with ⟨rfl, rfl⟩ | ⟨g, cap, cur, rfl, _⟩
  · exact ⟨none, 0, rfl⟩
  · exact ⟨_, cap, rfl⟩
theorem own_ext {w w' : World} {base e k m : Nat} {v : Value} {cs : List Value} (h : w.ownsRow base e k v m cs) (hE : Ext w w') : w'.ownsRow base e k v m cs :=
  h.kept (row := none) ⟨hE.os, hE.tape, hE.output, hE.size, fun i hi _ => hE.block i hi⟩ (by cases v.ownBlock <;> simp)
theorem own_wr {w w' : World} {base e k m b : Nat} {v : Value} {cs : List Value} (h : w.ownsRow base e k v m cs) (hg : Wr b w w') (hne : v.ownBlock ≠ some b) : w'.ownsRow base e k v m cs :=
  h.kept hg (.inr hne)
theorem Bx.sl {w : World} {b m k : Nat} {cs : List Value} (h : Bx w b cs) (hl : cs.length = m * k) (c : Nat) : Sl w k (.slice (some ⟨b, 0, none⟩) m c) m cs :=
  ⟨_, c, rfl, hl, fun a ha => (by cases ha; exact h.row), fun h => by cases h⟩
end Go.Proofs.YtahpiaaffeiadaaGreat
