/- Walk rules, part three: worlds. What lay there stays (Ext); blocks of one's own (Bx). -/
import Derived.Test.YtahpiaaffeiadaaGreatDoorWkb
namespace Go.Proofs.YtahpiaaffeiadaaGreatDoor
open Go Go.RowKit

/-- w' holds all that w holds. -/
abbrev Ext (w w' : World) : Prop := Below w.heap.size w w'
theorem Ext.refl (w : World) : Ext w w := Below.refl _ _
theorem Ext.trans {a b c : World} (h : Ext a b) (k : Ext b c) : Ext a c := Below.trans h (Below.mono k h.size)
theorem Ext.alloc (w : World) (o : Obj) : Ext w (w.alloc o) := (Below.refl _ _).alloc (Nat.le_refl _) o
theorem Ext.drew (w : World) : Ext w w.drew := (Below.refl _ _).drew
theorem Below.ext {B : Nat} {a b c : World} (h : Below B a b) (k : Ext b c) (hB : B ≤ a.heap.size) : Below B a c := h.trans (Below.mono k (Nat.le_trans hB h.size))

theorem cell_lt {w : World} {p : Addr} {v : Value} (h : w.cell? p = some v) : p.block < w.heap.size := World.block_lt_of_cell? w p h
theorem Ext.cell {w w' : World} (h : Ext w w') {p : Addr} {v : Value} (hc : w.cell? p = some v) : w'.cell? p = some v := (Below.cell h (cell_lt hc)).trans hc
theorem Row.ext {w w' : World} {p : Addr} {cs : List Value} (h : Row w p cs) (k : Ext w w') : Row w' p cs := fun j v hj => k.cell (h j v hj)

/-- The cells from place i on. -/
theorem Row.drop {w : World} {p : Addr} {cs : List Value} (h : Row w p cs) (i : Nat) : Row w (p.add i) (cs.drop i) := fun j v hj => by
  rw [Deep.add_add]
  exact h _ _ (by simpa using hj)
theorem Row.take {w : World} {p : Addr} {cs : List Value} (h : Row w p cs) (i : Nat) : Row w p (cs.take i) := fun j v hj => h j v (by
  rw [List.getElem?_take] at hj
  split at hj
  · exact hj
  · cases hj)
theorem Row.part {w : World} {p : Addr} {cs : List Value} (h : Row w p cs) (i k : Nat) : Row w (p.add i) ((cs.drop i).take k) := (h.drop i).take k

/-- A block of these cells, none of them frozen. -/
def Bx (w : World) (b : Nat) (cs : List Value) : Prop := ∃ T, w.heap[b]? = some (.cells cs.toArray T (0, 0))
theorem Bx.row {w : World} {b : Nat} {cs : List Value} (h : Bx w b cs) : Row w ⟨b, 0, none⟩ cs := fun j v hj => by
  obtain ⟨T, hT⟩ := h
  have e : (Addr.add ⟨b, 0, none⟩ j) = ⟨b, j, none⟩ := by unfold Addr.add; split <;> simp_all
  rw [e]
  simp [World.cell?, hT, hj]
theorem Bx.lt {w : World} {b : Nat} {cs : List Value} (h : Bx w b cs) : b < w.heap.size := by
  obtain ⟨T, hT⟩ := h
  rcases Nat.lt_or_ge b w.heap.size with h' | h'
  · exact h'
  · simp [Array.getElem?_eq_none h'] at hT
theorem Bx.ext {w w' : World} {b : Nat} {cs : List Value} (h : Bx w b cs) (k : Ext w w') : Bx w' b cs := by
  have := h.lt
  obtain ⟨T, hT⟩ := h
  exact ⟨T, by rw [k.block _ this]; exact hT⟩
theorem Bx.new (w : World) (cs : List Value) (T : TypeId) : Bx (w.alloc (.cells cs.toArray T)) w.heap.size cs := ⟨T, heap_alloc_new w _⟩
theorem Bx.new' (w : World) (cs : Array Value) (T : TypeId) : Bx (w.alloc (.cells cs T)) w.heap.size cs.toList := ⟨T, by simpa using heap_alloc_new w (.cells cs T)⟩

section
variable {P : Program} {n : Fm} {ops : Array Oper} {Q : Exit → Act → World → Prop} {fr : Fr} {w : World}

/-- A variable of one's own, with a value in it. -/
theorem Seg.box {d : Nat} {e : TypeId} {x : Operand} {T : TypeId} {pos : String} {aft : Array Edge} {g : Option (Nat × Bool)} {rest : List Oper} {v : Value}
    (hg : gd ops fr g = some true) (hd : Nat.blt d n.n = true) (hx : Fr.ev fr x = some v)
    (k : ∀ w1 b, Ext w w1 → Bx w1 b v.cells.toList → w.heap.size ≤ b → Seg P n ops Q rest ((d, .pointer (some ⟨b, 0, none⟩)) :: fr) w1) :
    Seg P n ops Q (⟨some d, .box e x, T, pos, aft, g⟩ :: rest) fr w :=
  Seg.step hg hd (Yd.box hx) (k _ _ (Ext.alloc _ _) (Bx.new' _ _ _) (Nat.le_refl _))
theorem Seg.alloc [Tys P] {d : Nat} {e : TypeId} {T : TypeId} {pos : String} {aft : Array Edge} {g : Option (Nat × Bool)} {rest : List Oper} {z : Value}
    (hg : gd ops fr g = some true) (hd : Nat.blt d n.n = true) (hz : zerOf P e = some z)
    (k : ∀ w1 b, Ext w w1 → Bx w1 b z.cells.toList → w.heap.size ≤ b → Seg P n ops Q rest ((d, .pointer (some ⟨b, 0, none⟩)) :: fr) w1) :
    Seg P n ops Q (⟨some d, .alloc e, T, pos, aft, g⟩ :: rest) fr w :=
  Seg.step hg hd (Yd.alloc hz) (k _ _ (Ext.alloc _ _) (Bx.new' _ _ _) (Nat.le_refl _))

end

/-! ### Regions that draw their order, whose operations read, or call, in any world of a class, and yield the same there -/
structure SegQ (P : Program) (n : Fm) (ops : Array Oper) (C : World → Prop) (K : Act → Prop) (l : List Oper) (fr : Fr) : Prop where
  out : ∀ a, Fr.Of fr n a → wpQuiet P ops C K l a
section
variable {P : Program} {n : Fm} {ops : Array Oper} {C : World → Prop} {K : Act → Prop} {Q : Exit → Act → World → Prop} {fr : Fr} {w : World}

theorem SegQ.step {d : Nat} {op : Op} {T : TypeId} {pos : String} {aft : Array Edge} {g : Option (Nat × Bool)} {rest : List Oper} {v : Value}
    (hg : gd ops fr g = some true) (hd : Nat.blt d n.n = true) (hy : ∀ w, C w → Yd P n op T fr w v w) (k : SegQ P n ops C K rest ((d, v) :: fr)) :
    SegQ P n ops C K (⟨some d, op, T, pos, aft, g⟩ :: rest) fr := .mk fun a ha => by
  refine wpQuiet_step fun K' hK => ?_
  rw [if_pos (gd_wanted ha (o := ⟨some d, op, T, pos, aft, g⟩) hg)]
  refine ⟨v, fun w hw => ?_, hK _ (k.out _ (ha.put hd _))⟩
  unfold Oper.quietAt
  rw [(hy w hw).out a ha (some d) pos aft g]
  exact ⟨rfl, rfl⟩
theorem SegQ.skip {d : Nat} {op : Op} {T : TypeId} {pos : String} {aft : Array Edge} {g : Option (Nat × Bool)} {rest : List Oper}
    (hg : gd ops fr g = some false) (hd : Nat.blt d n.n = true) (k : SegQ P n ops C K rest ((d, undef) :: fr)) :
    SegQ P n ops C K (⟨some d, op, T, pos, aft, g⟩ :: rest) fr := .mk fun a ha => by
  refine wpQuiet_step fun K' hK => ?_
  rw [if_neg (by rw [gd_wanted ha (o := ⟨some d, op, T, pos, aft, g⟩) hg]; simp)]
  exact hK _ (k.out _ (ha.put hd _))
theorem SegQ.call {d : Nat} {f : FuncId} {xs : List Operand} {ats : Array TypeId} {T : TypeId} {pos : String} {aft : Array Edge} {g : Option (Nat × Bool)} {rest : List Oper} {vs : List Value} {v : Value}
    (hg : gd ops fr g = some true) (hd : Nat.blt d n.n = true) (hf : Own P f) (hx : Fr.evs fr xs = some vs) (hc : ∀ w, C w → Ret P f vs.toArray w fun v' w' => v' = v ∧ C w')
    (k : SegQ P n ops C K rest ((d, v) :: fr)) :
    SegQ P n ops C K (⟨some d, .call ⟨.value (.func f), xs.toArray, ats⟩, T, pos, aft, g⟩ :: rest) fr := .mk fun a ha => by
  refine wpQuiet_step fun K' hK => ?_
  rw [if_pos (gd_wanted ha (o := ⟨some d, .call ⟨.value (.func f), xs.toArray, ats⟩, T, pos, aft, g⟩) hg)]
  refine ⟨v, fun w hw => ?_, hK _ (k.out _ (ha.put hd _))⟩
  unfold Oper.quietAt
  have e : execOp a.eval ⟨some d, .call ⟨.value (.func f), xs.toArray, ats⟩, T, pos, aft, g⟩ = callFunc f (#[] ++ xs.toArray.map a.eval ++ #[]) := rfl
  rw [e, hf.run]
  have e2 : (#[] ++ xs.toArray.map a.eval ++ #[] : Array Value) = vs.toArray := by simp [ha.evs hx]
  rw [e2]
  exact ⟨rfl, Calls.mono (hc w hw) fun e' w' ⟨v', he, hv, hw'⟩ => ⟨by rw [he, hv], hw'⟩⟩
theorem SegQ.nil (h : ∀ w, C w → At n Q .normal fr w) : SegQ P n ops C (fun a => ∀ w, C w → Q .normal a w) [] fr := .mk fun a ha w hw => (h w hw).out a ha
theorem SegQ.gsplit {d : Option Nat} {op : Op} {T : TypeId} {pos : String} {aft : Array Edge} {j : Nat} {b : Bool} {rest : List Oper} {k : Nat} {t : Bool} (_hj : gdst ops j = some k) (hk : Fr.look fr k = some (.bool t))
    (ht : t = true → SegQ P n ops C K (⟨d, op, T, pos, aft, some (j, b)⟩ :: rest) ((k, .bool true) :: fr))
    (hf : t = false → SegQ P n ops C K (⟨d, op, T, pos, aft, some (j, b)⟩ :: rest) ((k, .bool false) :: fr)) : SegQ P n ops C K (⟨d, op, T, pos, aft, some (j, b)⟩ :: rest) fr := .mk fun a ha => by
  cases t
  · exact (hf rfl).out a (ha.again hk)
  · exact (ht rfl).out a (ha.again hk)
theorem SegQ.gsplitp {d : Option Nat} {op : Op} {T : TypeId} {pos : String} {aft : Array Edge} {j : Nat} {b : Bool} {rest : List Oper} {k : Nat} {p : Prop} [Decidable p] (hj : gdst ops j = some k) (hk : Fr.look fr k = some (.bool (decide p)))
    (ht : p → SegQ P n ops C K (⟨d, op, T, pos, aft, some (j, b)⟩ :: rest) ((k, .bool true) :: fr))
    (hf : ¬ p → SegQ P n ops C K (⟨d, op, T, pos, aft, some (j, b)⟩ :: rest) ((k, .bool false) :: fr)) : SegQ P n ops C K (⟨d, op, T, pos, aft, some (j, b)⟩ :: rest) fr :=
  SegQ.gsplit hj hk (fun h => ht (of_decide_eq_true h)) (fun h => hf (of_decide_eq_false h))
/-- A region that draws its order. -/
theorem Cd.drawn (C : World → Prop) {id : Nat} {l : List Oper} (hm : P.follows .mixedOrders = true) (hB : Region.lexB .any l.toArray = true) (hC : C w.drew)
    (h : SegQ P n l.toArray C (fun a => ∀ w, C w → Q .normal a w) l fr) : Cd P n Q (.region id l.toArray true) fr w := .mk fun a ha =>
  wp_region_quiet hm hB hC (by simpa using h.out a ha)
/-- The same in the class of all worlds that hold what w holds. -/
theorem Cd.quiet {id : Nat} {l : List Oper} (hm : P.follows .mixedOrders = true) (hB : Region.lexB .any l.toArray = true)
    (h : SegQ P n l.toArray (Ext w) (fun a => ∀ w', Ext w w' → Q .normal a w') l fr) : Cd P n Q (.region id l.toArray true) fr w :=
  Cd.drawn (Ext w) hm hB (Ext.drew w) h
end
end Go.Proofs.YtahpiaaffeiadaaGreatDoor
