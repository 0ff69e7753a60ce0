/- Walk rules, part three: worlds. What lay there stays (Ext); blocks of one's own (Bx). The step from a walk to the row: a law that returns true and leaves all that lay there. Walk rules, part four: structs and arrays that are built; slices that are built. -/
import Derived.Test.YtahpiaaffeiadaaGreatWkb
import Derived.ProofKit
import Derived.Laws.OwnMore
namespace Go.Proofs.YtahpiaaffeiadaaGreat
open Go Go.RowKit

/-- w' holds all that w holds. -/
abbrev Ext (w w' : World) : Prop := Below w.heap.size w w'
theorem Ext.refl (w : World) : Ext w w := Below.refl _ _
theorem Ext.trans {a b c : World} (h : Ext a b) (k : Ext b c) : Ext a c := Below.trans h (Below.mono k h.size)
theorem Ext.alloc (w : World) (o : Obj) : Ext w (w.alloc o) := (Below.refl _ _).alloc (Nat.le_refl _) o
theorem Ext.drew (w : World) : Ext w w.drew := (Below.refl _ _).drew
theorem Below.ext {B : Nat} {a b c : World} (h : Below B a b) (k : Ext b c) (hB : B ≤ a.heap.size) : Below B a c := h.trans (Below.mono k (Nat.le_trans hB h.size))

theorem cell_lt {w : World} {p : Addr} {v : Value} (h : w.cell? p = some v) : p.block < w.heap.size := World.block_lt_of_cell? w p h
theorem Ext.cell {w w' : World} (h : Ext w w') {p : Addr} {v : Value} (hc : w.cell? p = some v) : w'.cell? p = some v := (Below.cell h (cell_lt hc)).trans hc
theorem Row.ext {w w' : World} {p : Addr} {cs : List Value} (h : Row w p cs) (k : Ext w w') : Row w' p cs := fun j v hj => k.cell (h j v hj)

/-- The cells from place i on. -/
theorem Row.drop {w : World} {p : Addr} {cs : List Value} (h : Row w p cs) (i : Nat) : Row w (p.add i) (cs.drop i) := fun j v hj => by
  rw [Deep.add_add]
  exact h _ _ (by simpa using hj)
theorem Row.take {w : World} {p : Addr} {cs : List Value} (h : Row w p cs) (i : Nat) : Row w p (cs.take i) := fun j v hj => h j v (by
  rw [List.getElem?_take] at hj
  split at hj
  · exact hj
  · cases hj)
theorem Row.part {w : World} {p : Addr} {cs : List Value} (h : Row w p cs) (i k : Nat) : Row w (p.add i) ((cs.drop i).take k) := (h.drop i).take k

/-- A block of these cells, none of them frozen. -/
def Bx (w : World) (b : Nat) (cs : List Value) : Prop := ∃ T, w.heap[b]? = some (.cells cs.toArray T (0, 0))
theorem Bx.row {w : World} {b : Nat} {cs : List Value} (h : Bx w b cs) : Row w ⟨b, 0, none⟩ cs := fun j v hj => by
  obtain ⟨T, hT⟩ := h
  have e : (Addr.add ⟨b, 0, none⟩ j) = ⟨b, j, none⟩ := by unfold Addr.add; split <;> simp_all
  rw [e]
  simp [World.cell?, hT, hj]
theorem Bx.lt {w : World} {b : Nat} {cs : List Value} (h : Bx w b cs) : b < w.heap.size := by
  obtain ⟨T, hT⟩ := h
  rcases Nat.lt_or_ge b w.heap.size with h' | h'
  · exact h'
  · simp [Array.getElem?_eq_none h'] at hT
theorem Bx.ext {w w' : World} {b : Nat} {cs : List Value} (h : Bx w b cs) (k : Ext w w') : Bx w' b cs := by
  have := h.lt
  obtain ⟨T, hT⟩ := h
  exact ⟨T, by rw [k.block _ this]; exact hT⟩
theorem Bx.new (w : World) (cs : List Value) (T : TypeId) : Bx (w.alloc (.cells cs.toArray T)) w.heap.size cs := ⟨T, heap_alloc_new w _⟩
theorem Bx.new' (w : World) (cs : Array Value) (T : TypeId) : Bx (w.alloc (.cells cs T)) w.heap.size cs.toList := ⟨T, by simpa using heap_alloc_new w (.cells cs T)⟩

section
variable {P : Program} {n : Fm} {ops : Array Oper} {Q : Exit → Act → World → Prop} {fr : Fr} {w : World}

/-- A variable of one's own, with a value in it. -/
theorem Seg.box {d : Nat} {e : TypeId} {x : Operand} {T : TypeId} {pos : String} {aft : Array Edge} {g : Option (Nat × Bool)} {rest : List Oper} {v : Value}
    (hg : gd ops fr g = some true) (hd : Nat.blt d n.n = true) (hx : Fr.ev fr x = some v)
    (k : ∀ w1 b, Ext w w1 → Bx w1 b v.cells.toList → w.heap.size ≤ b → Seg P n ops Q rest ((d, .pointer (some ⟨b, 0, none⟩)) :: fr) w1) :
    Seg P n ops Q (⟨some d, .box e x, T, pos, aft, g⟩ :: rest) fr w :=
  Seg.step hg hd (Yd.box hx) (k _ _ (Ext.alloc _ _) (Bx.new' _ _ _) (Nat.le_refl _))
theorem Seg.alloc [Tys P] {d : Nat} {e : TypeId} {T : TypeId} {pos : String} {aft : Array Edge} {g : Option (Nat × Bool)} {rest : List Oper} {z : Value}
    (hg : gd ops fr g = some true) (hd : Nat.blt d n.n = true) (hz : zerOf P e = some z)
    (k : ∀ w1 b, Ext w w1 → Bx w1 b z.cells.toList → w.heap.size ≤ b → Seg P n ops Q rest ((d, .pointer (some ⟨b, 0, none⟩)) :: fr) w1) :
    Seg P n ops Q (⟨some d, .alloc e, T, pos, aft, g⟩ :: rest) fr w :=
  Seg.step hg hd (Yd.alloc hz) (k _ _ (Ext.alloc _ _) (Bx.new' _ _ _) (Nat.le_refl _))

end

/-! ### Regions that draw their order, whose operations read, or call, in any world of a class, and yield the same there -/
structure SegQ (P : Program) (n : Fm) (ops : Array Oper) (C : World → Prop) (K : Act → Prop) (l : List Oper) (fr : Fr) : Prop where
  out : ∀ a, Fr.Of fr n a → wpQuiet P ops C K l a
section
variable {P : Program} {n : Fm} {ops : Array Oper} {C : World → Prop} {K : Act → Prop} {Q : Exit → Act → World → Prop} {fr : Fr} {w : World}

theorem SegQ.step {d : Nat} {op : Op} {T : TypeId} {pos : String} {aft : Array Edge} {g : Option (Nat × Bool)} {rest : List Oper} {v : Value}
    (hg : gd ops fr g = some true) (hd : Nat.blt d n.n = true) (hy : ∀ w, C w → Yd P n op T fr w v w) (k : SegQ P n ops C K rest ((d, v) :: fr)) :
    SegQ P n ops C K (⟨some d, op, T, pos, aft, g⟩ :: rest) fr := .mk fun a ha => by
  refine wpQuiet_step fun K' hK => ?_
  rw [if_pos (gd_wanted ha (o := ⟨some d, op, T, pos, aft, g⟩) hg)]
  refine ⟨v, fun w hw => ?_, hK _ (k.out _ (ha.put hd _))⟩
  unfold Oper.quietAt
  rw [(hy w hw).out a ha (some d) pos aft g]
  exact ⟨rfl, rfl⟩
theorem SegQ.skip {d : Nat} {op : Op} {T : TypeId} {pos : String} {aft : Array Edge} {g : Option (Nat × Bool)} {rest : List Oper}
    (hg : gd ops fr g = some false) (hd : Nat.blt d n.n = true) (k : SegQ P n ops C K rest ((d, undef) :: fr)) :
    SegQ P n ops C K (⟨some d, op, T, pos, aft, g⟩ :: rest) fr := .mk fun a ha => by
  refine wpQuiet_step fun K' hK => ?_
  rw [if_neg (by rw [gd_wanted ha (o := ⟨some d, op, T, pos, aft, g⟩) hg]; simp)]
  exact hK _ (k.out _ (ha.put hd _))
theorem SegQ.call {d : Nat} {f : FuncId} {xs : List Operand} {ats : Array TypeId} {T : TypeId} {pos : String} {aft : Array Edge} {g : Option (Nat × Bool)} {rest : List Oper} {vs : List Value} {v : Value}
    (hg : gd ops fr g = some true) (hd : Nat.blt d n.n = true) (hf : Own P f) (hx : Fr.evs fr xs = some vs) (hc : ∀ w, C w → Ret P f vs.toArray w fun v' w' => v' = v ∧ C w')
    (k : SegQ P n ops C K rest ((d, v) :: fr)) :
    SegQ P n ops C K (⟨some d, .call ⟨.value (.func f), xs.toArray, ats⟩, T, pos, aft, g⟩ :: rest) fr := .mk fun a ha => by
  refine wpQuiet_step fun K' hK => ?_
  rw [if_pos (gd_wanted ha (o := ⟨some d, .call ⟨.value (.func f), xs.toArray, ats⟩, T, pos, aft, g⟩) hg)]
  refine ⟨v, fun w hw => ?_, hK _ (k.out _ (ha.put hd _))⟩
  unfold Oper.quietAt
  have e : execOp a.eval ⟨some d, .call ⟨.value (.func f), xs.toArray, ats⟩, T, pos, aft, g⟩ = callFunc f (#[] ++ xs.toArray.map a.eval ++ #[]) := rfl
  rw [e, hf.run]
  have e2 : (#[] ++ xs.toArray.map a.eval ++ #[] : Array Value) = vs.toArray := by simp [ha.evs hx]
  rw [e2]
  exact ⟨rfl, Calls.mono (hc w hw) fun e' w' ⟨v', he, hv, hw'⟩ => ⟨by rw [he, hv], hw'⟩⟩
theorem SegQ.nil (h : ∀ w, C w → At n Q .normal fr w) : SegQ P n ops C (fun a => ∀ w, C w → Q .normal a w) [] fr := .mk fun a ha w hw => (h w hw).out a ha
theorem SegQ.gsplit {d : Option Nat} {op : Op} {T : TypeId} {pos : String} {aft : Array Edge} {j : Nat} {b : Bool} {rest : List Oper} {k : Nat} {t : Bool} (_hj : gdst ops j = some k) (hk : Fr.look fr k = some (.bool t))
    (ht : t = true → SegQ P n ops C K (⟨d, op, T, pos, aft, some (j, b)⟩ :: rest) ((k, .bool true) :: fr))
    (hf : t = false → SegQ P n ops C K (⟨d, op, T, pos, aft, some (j, b)⟩ :: rest) ((k, .bool false) :: fr)) : SegQ P n ops C K (⟨d, op, T, pos, aft, some (j, b)⟩ :: rest) fr := .mk fun a ha => by
  cases t
  · exact (hf rfl).out a (ha.again hk)
  · exact (ht rfl).out a (ha.again hk)
theorem SegQ.gsplitp {d : Option Nat} {op : Op} {T : TypeId} {pos : String} {aft : Array Edge} {j : Nat} {b : Bool} {rest : List Oper} {k : Nat} {p : Prop} [Decidable p] (hj : gdst ops j = some k) (hk : Fr.look fr k = some (.bool (decide p)))
    (ht : p → SegQ P n ops C K (⟨d, op, T, pos, aft, some (j, b)⟩ :: rest) ((k, .bool true) :: fr))
    (hf : ¬ p → SegQ P n ops C K (⟨d, op, T, pos, aft, some (j, b)⟩ :: rest) ((k, .bool false) :: fr)) : SegQ P n ops C K (⟨d, op, T, pos, aft, some (j, b)⟩ :: rest) fr :=
  SegQ.gsplit hj hk (fun h => ht (of_decide_eq_true h)) (fun h => hf (of_decide_eq_false h))
/-- A region that draws its order. -/
theorem Cd.drawn (C : World → Prop) {id : Nat} {l : List Oper} (hm : P.follows .mixedOrders = true) (hB : Region.lexB .any l.toArray = true) (hC : C w.drew)
    (h : SegQ P n l.toArray C (fun a => ∀ w, C w → Q .normal a w) l fr) : Cd P n Q (.region id l.toArray true) fr w := .mk fun a ha =>
  wp_region_quiet hm hB hC (by simpa using h.out a ha)
/-- The same in the class of all worlds that hold what w holds. -/
theorem Cd.quiet {id : Nat} {l : List Oper} (hm : P.follows .mixedOrders = true) (hB : Region.lexB .any l.toArray = true)
    (h : SegQ P n l.toArray (Ext w) (fun a => ∀ w', Ext w w' → Q .normal a w') l fr) : Cd P n Q (.region id l.toArray true) fr w :=
  Cd.drawn (Ext w) hm hB (Ext.drew w) h
end
end Go.Proofs.YtahpiaaffeiadaaGreat
namespace Go.Proofs.YtahpiaaffeiadaaGreat
open Go Go.RowKit Go.ChangeShapes Go.WideShapes Go.ChangeAt

theorem bF {p : Prop} [Decidable p] (h : ¬ p) : Value.bool false = .bool (decide p) := by rw [decide_eq_false h]
theorem bT {p : Prop} [Decidable p] (h : p) : Value.bool true = .bool (decide p) := by rw [decide_eq_true h]
section
variable {H : Type} {enc : TypeId × Value → H} {P : Program} {W W' : World}

theorem args_stay (hl : laidOutB P = true) (hE : Ext W W') : ∀ {ts : List TypeId} {vs : List Value} {ds : List (DataW H)} {ps : List MemPlace},
    (∀ t ∈ ts, P.readableRec t = true ∧ t < P.types.size) → DataW.TrodAll enc P W 0 (fun _ => true) true ts vs ds ps → (∀ x ∈ ps, x.block < W.heap.size) →
    DataW.TrodAll enc P W' 0 (fun b => decide (b < W.heap.size)) true ts vs ds ps
  | [], [], [], ps, _, h, _ => h
  | t :: ts, v :: vs, d :: ds, ps, hr, h, hlt => by
    obtain ⟨p, q, h1, h2, rfl⟩ := h
    exact ⟨p, q, Below.trod hl (hr t (by simp)).1 (hr t (by simp)).2 h1 hE (fun x hx => hlt x (by simp [hx])),
      args_stay hl hE (fun t ht => hr t (by simp [ht])) h2 (fun x hx => hlt x (by simp [hx])), rfl⟩
  | [], [], _ :: _, _, _, h, _ => h.elim
  | [], _ :: _, _, _, _, h, _ => h.elim
  | _ :: _, [], _, _, _, h, _ => h.elim
  | _ :: _, _ :: _, [], _, _, h, _ => h.elim

theorem law_post {f : Func} {s : ChangeSpec} {args : Array Value} {ds gs : List (DataW H)} {before : List MemPlace} {tb : TypeId}
    (hl : laidOutB P = true) (hr : ∀ t ∈ f.params.toList, P.readableRec t = true ∧ t < P.types.size) (hres : f.resultTypes = #[tb]) (hb : P.underlying tb = some .bool)
    (hvars : s.vars = []) (hW : DataW.Whole enc P f.params.toList s.vars false W args.toList ds gs before) (hs : s.fn H ds = { results := [.lit (.bool true)], args := ds }) (hE : Ext W W') :
    s.post enc P f false true false false W args (.bool true) W' := by
  have hW' := hW
  obtain ⟨p, q, hA, hV, rfl, hfz, hnd⟩ := hW
  rw [hvars] at hV
  obtain ⟨rfl, rfl⟩ := trodVars_none hV
  simp only [List.append_nil] at *
  refine ⟨ds, [], p, [], p, [], hW', ?_, ?_, ?_, Below.frame hE _, fun h => by cases h⟩
  · simp only [List.append_nil, hs, hres]
    exact trodAll_mk1 (shut_bool hb true)
  · simp only [List.append_nil, hs]
    exact args_stay hl hE hr hA (fun x hx => hW'.lt x hx)
  · simp only [List.append_nil, hs, hvars]
    exact rfl
end
end Go.Proofs.YtahpiaaffeiadaaGreat
namespace Go.Proofs.YtahpiaaffeiadaaGreat
open Go Go.RowKit

def putAt (cs : List Value) (o : Nat) : List Value → List Value
  | [] => cs
  | v :: r => putAt (cs.set o v) (o + 1) r
theorem putAt_length : ∀ (r cs : List Value) (o : Nat), (putAt cs o r).length = cs.length
  | [], _, _ => rfl
  | v :: r, cs, o => by rw [putAt, putAt_length r]; simp
/-- The cells of a struct (array) of these places, its parts put in. -/
def fillL (fl : List (Nat × Nat)) : List Value → List (Nat × Value) → Option (List Value)
  | cs, [] => some cs
  | cs, (i, v) :: rest => match fl[i]? with
    | none => none
    | some (o, s) => match Nat.beq v.cells.size s, Nat.ble (o + v.cells.size) cs.length with
      | true, true => fillL fl (putAt cs o v.cells.toList) rest
      | _, _ => none

theorem fillL_length {fl : List (Nat × Nat)} : ∀ (parts : List (Nat × Value)) {cs : List Value} (cs' : List Value), fillL fl cs parts = some cs' → cs'.length = cs.length
  | [], cs, cs', h => by cases h; rfl
  | (i, v) :: rest, cs, cs', h => by
    unfold fillL at h
    split at h
    · cases h
    · split at h
      · rw [fillL_length rest cs' h, putAt_length]
      · cases h

theorem foldl_putAt : ∀ (r : List Value) (cs : List Value) (o k : Nat),
    (r.zipIdx k).foldl (fun (cs : Array Value) (p : Value × Nat) => cs.setIfInBounds (o + p.2) p.1) cs.toArray = (putAt cs (o + k) r).toArray
  | [], _, _, _ => rfl
  | v :: r, cs, o, k => by
    rw [List.zipIdx_cons, List.foldl_cons, putAt]
    have := foldl_putAt r (cs.set (o + k) v) o (k + 1)
    simpa [Nat.add_assoc] using this

theorem fill_fillL (place : Nat → Option (Nat × Nat)) (fl : List (Nat × Nat)) (hp : ∀ i, place i = fl[i]?) : ∀ (parts : List (Nat × Value)) (cs cs' : List Value), fillL fl cs parts = some cs' → Instr.fill place cs.toArray parts = some cs'.toArray
  | [], cs, cs', h => by cases h; rfl
  | (i, v) :: rest, cs, cs', h => by
    unfold fillL at h
    unfold Instr.fill
    rw [hp]
    split at h
    · cases h
    · rename_i o s hf
      rw [hf]
      split at h
      · rename_i h1 h2
        have h1' := Nat.eq_of_beq_eq_true h1
        have h2' := Nat.le_of_ble_eq_true h2
        have hc : (decide (v.cells.size ≠ s) || decide (o + v.cells.size > cs.toArray.size)) = false := by
          simp; omega
        simp only [hc]
        have := foldl_putAt v.cells.toList cs o 0
        simp only [Nat.add_zero] at this
        rw [← Array.foldl_toList, Array.toList_zipIdx]
        rw [show (v.cells.toList.zipIdx.foldl (fun (cs : Array Value) (p : Value × Nat) => match p with | (c, j) => cs.setIfInBounds (o + j) c) cs.toArray) = (putAt cs o v.cells.toList).toArray from this]
        exact fill_fillL place fl hp rest _ _ h
      · cases h

def zcells (v : Value) : List Value := v.cells.toList

def Fr.parts (fr : Fr) : List (Nat × Operand) → Option (List (Nat × Value))
  | [] => some []
  | (i, x) :: r => match Fr.ev fr x, Fr.parts fr r with
    | some v, some vs => some ((i, v) :: vs)
    | _, _ => none
theorem Fr.Of.parts {fr : Fr} {n : Fm} {a : Act} (h : Fr.Of fr n a) : ∀ {xs : List (Nat × Operand)} {vs : List (Nat × Value)}, Fr.parts fr xs = some vs → xs.map (fun p => (p.1, a.eval p.2)) = vs
  | [], vs, hx => by simpa [Fr.parts] using hx
  | (i, x) :: r, vs, hx => by
    unfold Fr.parts at hx
    split at hx
    · rename_i v vs' h1 h2
      cases hx
      simp [h.ev h1, h.parts h2]
    · cases hx

theorem FldsOk.places {P : Program} {fs : List Field} {r : List (Nat × Nat)} (h : FldsOk P fs r) (w : World) : (fs.mapM (m := Sem) fun f => do pure (f.offset, ← sizeOf f.type)).run P w = .ok r w := by
  induction fs generalizing r with
  | nil => cases r <;> simp_all [FldsOk]
  | cons f fs ih =>
    cases r with
    | nil => simp [FldsOk] at h
    | cons p r =>
      obtain ⟨o, s⟩ := p
      obtain ⟨⟨rfl, h2⟩, h3⟩ := h
      rw [List.mapM_cons]
      simp only [Sem.run_bind, h2, Result.andThen_ok, ih h3, Sem.run_pure]

def fldsOf (P : Program) [Tys P] (T : TypeId) : Option (List (Nat × Nat)) := match tyR P T with | some r => some r.flds | none => none
def arPlaces : Nat → Nat → Nat → List (Nat × Nat)
  | 0, _, _ => []
  | m + 1, s, o => (o, s) :: arPlaces m s (o + s)
theorem arPlaces_get : ∀ (m s o i : Nat), i < m → (arPlaces m s o)[i]? = some (o + i * s, s)
  | 0, _, _, _, h => absurd h (Nat.not_lt_zero _)
  | m + 1, s, o, 0, _ => by simp [arPlaces]
  | m + 1, s, o, i + 1, h => by
    rw [arPlaces, List.getElem?_cons_succ, arPlaces_get m s (o + s) i (by omega)]
    congr 2
    rw [Nat.succ_mul]; omega
theorem arPlaces_none : ∀ (m s o i : Nat), ¬ i < m → (arPlaces m s o)[i]? = none
  | 0, _, _, _, _ => by simp [arPlaces]
  | m + 1, s, o, 0, h => absurd (Nat.succ_pos m) h
  | m + 1, s, o, i + 1, h => by
    rw [arPlaces, List.getElem?_cons_succ, arPlaces_none m s (o + s) i (by omega)]

theorem fill_fillL' (place : Nat → Option (Nat × Nat)) (fl : List (Nat × Nat)) (hp : ∀ i x, fl[i]? = some x → place i = some x) : ∀ (parts : List (Nat × Value)) (cs cs' : List Value), fillL fl cs parts = some cs' → Instr.fill place cs.toArray parts = some cs'.toArray
  | [], cs, cs', h => by cases h; rfl
  | (i, v) :: rest, cs, cs', h => by
    unfold fillL at h
    unfold Instr.fill
    split at h
    · cases h
    · rename_i o s hf
      rw [hp _ _ hf]
      split at h
      · rename_i h1 h2
        have h1' := Nat.eq_of_beq_eq_true h1
        have h2' := Nat.le_of_ble_eq_true h2
        have hc : (decide (v.cells.size ≠ s) || decide (o + v.cells.size > cs.toArray.size)) = false := by
          simp; omega
        simp only [hc]
        have := foldl_putAt v.cells.toList cs o 0
        simp only [Nat.add_zero] at this
        rw [← Array.foldl_toList, Array.toList_zipIdx]
        rw [show (v.cells.toList.zipIdx.foldl (fun (cs : Array Value) (p : Value × Nat) => match p with | (c, j) => cs.setIfInBounds (o + j) c) cs.toArray) = (putAt cs o v.cells.toList).toArray from this]
        exact fill_fillL' place fl hp rest _ _ h
      · cases h

section
variable {P : Program} [Tys P] {n : Fm} {fr : Fr} {w w' : World} {T : TypeId}

theorem und_flds {U : TypeId} {fl : List (Nat × Nat)} (h : fldsOf P U = some fl) (hne : fl ≠ []) : ∃ fs, P.underlying U = some (.struct fs) ∧ FldsOk P fs.toList fl := by
  unfold fldsOf at h
  split at h
  · rename_i r hr
    obtain ⟨d, i, ho⟩ := row_of hr
    simp only [Option.some.injEq] at h
    rcases ho.flds with h0 | ⟨fs, hd, hf⟩
    · exact absurd (h.symm.trans h0) hne
    · exact ⟨fs, by rw [ho.und, hd], h ▸ hf⟩
  · cases h

theorem run_build {U : TypeId} {p : Nat × Nat} {fl : List (Nat × Nat)} {z : Value} {parts : List (Nat × Value)} {cs : List Value} (hf : fldsOf P U = some (p :: fl)) (hz : zerOf P U = some z) (hc : fillL (p :: fl) (zcells z) parts = some cs) :
    (Instr.build U parts.toArray).run P w = .ok (.agg cs.toArray) w := by
  obtain ⟨fs, h1, h2⟩ := und_flds hf (by simp)
  have h3 := h2.places w
  unfold Instr.build
  rw [Sem.run_bind, run_zero hz]
  simp only [Result.andThen_ok]
  rw [Sem.run_bind, run_underlying h1]
  simp only [Result.andThen_ok]
  rw [Sem.run_bind]
  have h4 : (fs.mapM (m := Sem) fun f => do pure (f.offset, ← sizeOf f.type)).run P w = .ok (p :: fl).toArray w := by
    obtain ⟨l⟩ := fs
    rw [List.mapM_toArray, Sem.run_map, h3]
    rfl
  rw [h4]
  simp only [Result.andThen_ok]
  have h5 := fill_fillL (fun i => (p :: fl).toArray[i]?) (p :: fl) (fun i => by simp) parts _ _ hc
  rw [show (zcells z).toArray = z.cells by simp [zcells]] at h5
  rw [h5]
  rfl

theorem Yd.build {U : TypeId} {xs : List (Nat × Operand)} {p : Nat × Nat} {fl : List (Nat × Nat)} {z : Value} {parts : List (Nat × Value)} {cs : List Value} (hf : fldsOf P U = some (p :: fl)) (hz : zerOf P U = some z) (hx : Fr.parts fr xs = some parts)
    (hc : fillL (p :: fl) (zcells z) parts = some cs) : Yd P n (.build U xs.toArray) T fr w (.agg cs.toArray) w :=
  .val fun a ha d pos aft g => by
    have h := run_build (w := w) hf hz hc
    rw [← ha.parts hx] at h
    simp only [execOp, List.map_toArray]
    rw [Sem.run_bind, h]
    rfl

theorem run_buildArr {U : TypeId} {m e s : Nat} {z : Value} {parts : List (Nat × Value)} {cs : List Value} (hf : arOf P U = some (m, e, s)) (hz : zerOf P U = some z) (hc : fillL (arPlaces m s 0) (zcells z) parts = some cs) :
    (Instr.build U parts.toArray).run P w = .ok (.agg cs.toArray) w := by
  obtain ⟨h1, h2⟩ := und_ar hf
  unfold Instr.build
  rw [Sem.run_bind, run_zero hz]
  simp only [Result.andThen_ok]
  rw [Sem.run_bind, run_underlying h1]
  simp only [Result.andThen_ok]
  rw [Sem.run_bind, h2]
  simp only [Result.andThen_ok]
  have h5 := fill_fillL' (fun i => some (i * s, s)) (arPlaces m s 0) (fun i x hx => by
    by_cases hi : i < m
    · rw [arPlaces_get m s 0 i hi] at hx; simpa using hx
    · rw [arPlaces_none m s 0 i hi] at hx; cases hx) parts _ _ hc
  rw [show (zcells z).toArray = z.cells by simp [zcells]] at h5
  rw [h5]
  rfl
theorem Yd.buildArr {U : TypeId} {xs : List (Nat × Operand)} {m e s : Nat} {z : Value} {parts : List (Nat × Value)} {cs : List Value} (hf : arOf P U = some (m, e, s)) (hz : zerOf P U = some z) (hx : Fr.parts fr xs = some parts)
    (hc : fillL (arPlaces m s 0) (zcells z) parts = some cs) : Yd P n (.build U xs.toArray) T fr w (.agg cs.toArray) w :=
  .val fun a ha d pos aft g => by
    have h := run_buildArr (w := w) hf hz hc
    rw [← ha.parts hx] at h
    simp only [execOp, List.map_toArray]
    rw [Sem.run_bind, h]
    rfl
end

/-- n times these cells. -/
def reps : Nat → List Value → List Value
  | 0, _ => []
  | m + 1, z => z ++ reps m z
theorem reps_length : ∀ (m : Nat) (z : List Value), (reps m z).length = m * z.length
  | 0, _ => by simp [reps]
  | m + 1, z => by rw [reps, List.length_append, reps_length m z, Nat.succ_mul]; omega
theorem reps_get : ∀ (m : Nat) (z : List Value) (i : Nat), i < m * z.length → (reps m z)[i]? = z[i % z.length]?
  | 0, _, i, h => by simp at h
  | m + 1, z, i, h => by
    rw [reps]
    by_cases hi : i < z.length
    · rw [List.getElem?_append_left hi, Nat.mod_eq_of_lt hi]
    · rw [List.getElem?_append_right (by omega), reps_get m z (i - z.length) (by rw [Nat.succ_mul] at h; omega)]
      have : i % z.length = (i - z.length) % z.length := by rw [Nat.mod_eq_sub_mod (by omega)]
      rw [this]
theorem reps_made (m : Nat) (z : Array Value) (hz : 0 < z.size) : ((Array.range (m * z.size)).map (z[· % z.size]!)) = (reps m z.toList).toArray := by
  apply Array.ext'
  apply List.ext_getElem?
  intro i
  by_cases hi : i < m * z.size
  · have hm : i % z.size < z.size := Nat.mod_lt _ hz
    rw [List.toList_toArray, reps_get m z.toList i (by simpa using hi)]
    simp [hi, hm]
  · have : (reps m z.toList)[i]? = none := by
      rw [List.getElem?_eq_none]; rw [reps_length]; simpa using Nat.le_of_not_lt hi
    rw [List.toList_toArray, this]
    simp [hi]

section
variable {P : Program} [Tys P] {n : Fm} {ops : Array Oper} {Q : Exit → Act → World → Prop} {fr : Fr} {w : World} {T : TypeId}

theorem run_buildSlice {U : TypeId} {len e s : Nat} {z : Value} {parts : List (Nat × Value)} {cs : List Value} (hf : slOf P U = some (e, s + 1)) (hz : zerOf P e = some z) (hzs : Nat.beq z.cells.size (s + 1) = true) (hlen : Nat.ble (len * (s + 1)) 16777216 = true)
    (hc : fillL (arPlaces len (s + 1) 0) (reps len (zcells z)) parts = some cs) :
    (Instr.buildSlice U len parts.toArray).run P w = .ok (.slice (some ⟨w.heap.size, 0, none⟩) len len) (w.alloc (.cells cs.toArray e)) := by
  obtain ⟨h1, h2⟩ := und_sl hf
  have hzs := Nat.eq_of_beq_eq_true hzs
  have hlen := Nat.le_of_ble_eq_true hlen
  unfold Instr.buildSlice
  rw [Sem.run_bind, run_underlying h1]
  simp only [Result.andThen_ok]
  rw [Sem.run_bind, h2]
  simp only [Result.andThen_ok]
  rw [if_neg (show ¬ len * (s + 1) > 2 ^ 24 by omega)]
  by_cases h0 : len = 0
  · subst h0
    rw [if_pos (Nat.zero_mul _), Sem.run_bind, Sem.run_pure]
    simp only [Result.andThen_ok]
    have h5 := fill_fillL' (fun i => some (i * (s + 1), s + 1)) (arPlaces 0 (s + 1) 0) (fun i x hx => by simp [arPlaces] at hx) parts _ _ hc
    rw [show reps 0 (zcells z) = [] from rfl] at h5
    rw [show ((Array.range (0 * (s + 1))).map (fun (x : Nat) => (#[] : Array Value)[x % (#[] : Array Value).size]!)) = [].toArray by simp, h5]
    simp [newRow]
  · rw [if_neg (Nat.mul_ne_zero h0 (Nat.succ_ne_zero s))]
    rw [Sem.run_bind, run_zero hz]
    simp only [Result.andThen_ok]
    rw [Sem.run_bind, Sem.run_pure]
    simp only [Result.andThen_ok]
    have h5 := fill_fillL' (fun i => some (i * (s + 1), s + 1)) (arPlaces len (s + 1) 0) (fun i x hx => by
      by_cases hi : i < len
      · rw [arPlaces_get len (s + 1) 0 i hi] at hx; simpa using hx
      · rw [arPlaces_none len (s + 1) 0 i hi] at hx; cases hx) parts _ _ hc
    have h6 := reps_made len z.cells (by omega)
    rw [hzs] at h6
    rw [hzs, h6]
    rw [show reps len z.cells.toList = reps len (zcells z) from rfl, h5]
    simp [newRow]

theorem Seg.buildSlice {d : Nat} {U len e s : Nat} {xs : List (Nat × Operand)} {pos : String} {aft : Array Edge} {g : Option (Nat × Bool)} {rest : List Oper} {z : Value} {parts : List (Nat × Value)} {cs : List Value}
    (hg : gd ops fr g = some true) (hd : Nat.blt d n.n = true) (hf : slOf P U = some (e, s + 1)) (hz : zerOf P e = some z) (hzs : Nat.beq z.cells.size (s + 1) = true) (hlen : Nat.ble (len * (s + 1)) 16777216 = true) (hx : Fr.parts fr xs = some parts)
    (hc : fillL (arPlaces len (s + 1) 0) (reps len (zcells z)) parts = some cs)
    (k : ∀ w1 b, Ext w w1 → Bx w1 b cs → w.heap.size ≤ b → w1.ownsRow w.heap.size e (s + 1) (.slice (some ⟨b, 0, none⟩) len len) len cs → Seg P n ops Q rest ((d, .slice (some ⟨b, 0, none⟩) len len) :: fr) w1) :
    Seg P n ops Q (⟨some d, .buildSlice U len xs.toArray, T, pos, aft, g⟩ :: rest) fr w :=
  Seg.step (v := .slice (some ⟨w.heap.size, 0, none⟩) len len) (w' := w.alloc (.cells cs.toArray e)) hg hd (.val fun a ha d pos aft g => by
    have h := run_buildSlice (w := w) hf hz hzs hlen hc
    rw [← ha.parts hx] at h
    simp only [execOp, List.map_toArray]
    rw [Sem.run_bind, h]
    rfl) (k _ _ (Ext.alloc _ _) (Bx.new _ _ _) (Nat.le_refl _) (by
      have hlen := Nat.le_of_ble_eq_true hlen
      have hl : cs.length = len * (s + 1) := by rw [fillL_length _ _ hc, reps_length, show (zcells z).length = s + 1 from by simpa [zcells] using Nat.eq_of_beq_eq_true hzs]
      have := World.ownsRow_lit (e := e) (base := w.heap.size) (size := s + 1) w cs.toArray len (Nat.le_refl _) (by have : len ≤ len * (s + 1) := Nat.le_mul_of_pos_right len (Nat.succ_pos s); unfold maxLen; omega) (by simpa using hl)
      simpa using this))
end
end Go.Proofs.YtahpiaaffeiadaaGreat
