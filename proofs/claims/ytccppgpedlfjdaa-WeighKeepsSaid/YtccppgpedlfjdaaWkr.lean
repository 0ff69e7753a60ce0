/- Walk rules: ranges over functions. What an iterator tells, and the rule of the loop. -/
import Derived.Test.YtccppgpedlfjdaaWkp
import Derived.RangeFuncCalls
import Derived.RangeFuncRecord
namespace Go.Proofs.Ytccppgpedlfjdaa
open Go Go.RowKit

/-- All is let in; in a round of loop ro. -/
abbrev Fw (ro : Option Nat) : Fence := { Fence.wide with round := ro }

/-- A frame with deferred calls. -/
structure Fr.OfD (ds : List Deferred) (fr : Fr) (n : Nat) (a : Act) : Prop where
  fr : Fr.Of fr n ⟨a.tmps, []⟩
  df : a.defers = ds
section
variable {ds : List Deferred} {fr : Fr} {n : Nat} {a : Act}
theorem Fr.OfD.eq (h : Fr.OfD ds fr n a) : a = ⟨a.tmps, ds⟩ := by cases a; have := h.df; simp only at this; subst this; rfl
theorem Fr.OfD.eval (_h : Fr.OfD ds fr n a) (x : Operand) : a.eval x = (⟨a.tmps, []⟩ : Act).eval x := by cases x <;> rfl
theorem Fr.OfD.evalf (h : Fr.OfD ds fr n a) : a.eval = (⟨a.tmps, []⟩ : Act).eval := funext h.eval
theorem Fr.OfD.put (h : Fr.OfD ds fr n a) {d : Nat} (hd : Nat.blt d n = true) (v : Value) : Fr.OfD ds ((d, v) :: fr) n (a.put (some d) v) := ⟨h.fr.put hd v, h.df⟩
theorem Fr.OfD.put0 (h : Fr.OfD ds fr n a) (v : Value) : Fr.OfD ds fr n (a.put none v) := h
theorem Fr.OfD.sub {fr' : Fr} (h : Fr.OfD ds fr n a) (hs : Fr.Sub fr' fr) : Fr.OfD ds fr' n a := ⟨h.fr.sub hs, h.df⟩
theorem Fr.OfD.again (h : Fr.OfD ds fr n a) {k : Nat} {v : Value} (hk : Fr.look fr k = some v) : Fr.OfD ds ((k, v) :: fr) n a := ⟨h.fr.again hk, h.df⟩
theorem Fr.Of.d (h : Fr.Of fr n a) : Fr.OfD [] fr n a := ⟨by cases a; have := h.defers; simp only at this; subst this; exact h, h.defers⟩
theorem Fr.OfD.o (h : Fr.OfD [] fr n a) : Fr.Of fr n a := by have := h.eq; rw [this]; exact h.fr
end

structure SegI (ro : Option Nat) (ds : List Deferred) (P : Program) (n : Nat) (ops : Array Oper) (Q : Exit → Act → World → Prop) (l : List Oper) (fr : Fr) (w : World) : Prop where
  out : ∀ a, Fr.OfD ds fr n a → wpListIn (Fw ro) 0 P ops Q l a w
structure CdI (ro : Option Nat) (ds : List Deferred) (P : Program) (n : Nat) (Q : Exit → Act → World → Prop) (c : Code) (fr : Fr) (w : World) : Prop where
  out : ∀ a, Fr.OfD ds fr n a → c.wpIn (Fw ro) 0 P Q a w
structure AtI (ds : List Deferred) (n : Nat) (Q : Exit → Act → World → Prop) (e : Exit) (fr : Fr) (w : World) : Prop where
  out : ∀ a, Fr.OfD ds fr n a → Q e a w
def noDefer : Op → Bool
  | .defer _ => false
  | _ => true
theorem noDefer_ne {o : Op} (h : noDefer o = true) (c : Call) : o ≠ .defer c := fun e => by subst e; cases h

/-- A value that is called: a function of the program, or a loop's round. -/
def VCall (P : Program) (y : Value) (args : List Value) (w : World) (R : Value → World → Prop) : Prop :=
  (∃ f cap, y = .func (.func f) #[] cap ∧ Own P f ∧ Ret P f (args ++ cap.toList).toArray w R) ∨
  (∃ l fn tmps assign body, y = .func (.yield l) #[] #[] ∧ (Instr.yield l args.toArray).run P w = .ok (.round l fn tmps assign body) w ∧ RoundIn Fence.wide 0 P l fn tmps assign body w (fun e w' => ∃ v, e = .returned v ∧ R v w'))

section
variable {ro : Option Nat} {ds : List Deferred} {P : Program} {n : Nat} {ops : Array Oper} {Q : Exit → Act → World → Prop} {fr : Fr} {w w' : World}

theorem gd_wantedI {a : Act} (h : Fr.OfD ds fr n a) {o : Oper} {t : Bool} (hg : gd ops fr o.guard = some t) : Region.wanted o (yielded ops a.tmps) = t :=
  gd_wanted (a := ⟨a.tmps, []⟩) h.fr hg
theorem SegI.step {d : Nat} {op : Op} {T : TypeId} {pos : String} {aft : Array Edge} {g : Option (Nat × Bool)} {rest : List Oper} {v : Value}
    (hn : noDefer op = true) (hg : gd ops fr g = some true) (hd : Nat.blt d n = true) (hy : Yd P n op T fr w v w') (k : SegI ro ds P n ops Q rest ((d, v) :: fr) w') :
    SegI ro ds P n ops Q (⟨some d, op, T, pos, aft, g⟩ :: rest) fr w := .mk fun a ha => by
  refine wpListIn_step fun K hK => ?_
  rw [if_pos (gd_wantedI ha (o := ⟨some d, op, T, pos, aft, g⟩) hg)]
  refine ⟨fun _ _ => trivial, ?_⟩
  rw [Oper.semAt_eq _ _ _ (fun c => noDefer_ne hn c), ha.evalf, hy.out _ ha.fr (some d) pos aft g]
  exact hK _ _ (k.out _ (ha.put hd _))
theorem SegI.step0 {op : Op} {T : TypeId} {pos : String} {aft : Array Edge} {g : Option (Nat × Bool)} {rest : List Oper}
    (hn : noDefer op = true) (hg : gd ops fr g = some true) (hy : Ys P n op T fr w w') (k : SegI ro ds P n ops Q rest fr w') :
    SegI ro ds P n ops Q (⟨none, op, T, pos, aft, g⟩ :: rest) fr w := .mk fun a ha => by
  refine wpListIn_step fun K hK => ?_
  rw [if_pos (gd_wantedI ha (o := ⟨none, op, T, pos, aft, g⟩) hg)]
  refine ⟨fun _ _ => trivial, ?_⟩
  rw [Oper.semAt_eq _ _ _ (fun c => noDefer_ne hn c), ha.evalf, hy.out _ ha.fr none pos aft g]
  exact hK _ _ (k.out _ ha)
theorem SegI.skip {d : Nat} {op : Op} {T : TypeId} {pos : String} {aft : Array Edge} {g : Option (Nat × Bool)} {rest : List Oper}
    (hg : gd ops fr g = some false) (hd : Nat.blt d n = true) (k : SegI ro ds P n ops Q rest ((d, undef) :: fr) w) :
    SegI ro ds P n ops Q (⟨some d, op, T, pos, aft, g⟩ :: rest) fr w := .mk fun a ha => by
  refine wpListIn_step fun K hK => ?_
  rw [if_neg (by rw [gd_wantedI ha (o := ⟨some d, op, T, pos, aft, g⟩) hg]; simp)]
  exact ⟨fun _ _ => trivial, hK _ _ (k.out _ (ha.put hd _))⟩
theorem SegI.nil (h : AtI ds n Q .normal fr w) : SegI ro ds P n ops Q [] fr w := .mk fun a ha => h.out a ha
theorem SegI.call {d : Nat} {f : FuncId} {xs : List Operand} {ats : Array TypeId} {T : TypeId} {pos : String} {aft : Array Edge} {g : Option (Nat × Bool)} {rest : List Oper} {vs : List Value} {R : Value → World → Prop}
    (hg : gd ops fr g = some true) (hd : Nat.blt d n = true) (hf : Own P f) (hx : Fr.evs fr xs = some vs) (hc : Ret P f vs.toArray w R)
    (k : ∀ v w', R v w' → SegI ro ds P n ops Q rest ((d, v) :: fr) w') :
    SegI ro ds P n ops Q (⟨some d, .call ⟨.value (.func f), xs.toArray, ats⟩, T, pos, aft, g⟩ :: rest) fr w := .mk fun a ha => by
  refine wpListIn_step fun K hK => ?_
  rw [if_pos (gd_wantedI ha (o := ⟨some d, .call ⟨.value (.func f), xs.toArray, ats⟩, T, pos, aft, g⟩) hg)]
  refine ⟨fun _ _ => trivial, ?_⟩
  rw [Oper.semAt_eq _ _ _ (fun c => noDefer_ne rfl c), ha.evalf]
  have e : execOp (⟨a.tmps, []⟩ : Act).eval ⟨some d, .call ⟨.value (.func f), xs.toArray, ats⟩, T, pos, aft, g⟩ = callFunc f (#[] ++ xs.toArray.map (⟨a.tmps, []⟩ : Act).eval ++ #[]) := rfl
  rw [e, hf.run]
  have e2 : (#[] ++ xs.toArray.map (⟨a.tmps, []⟩ : Act).eval ++ #[] : Array Value) = vs.toArray := by simp [ha.fr.evs hx]
  rw [e2]
  refine ⟨fun h => (by cases h), ?_⟩
  exact callsIn_wide.2 (Calls.mono hc fun e' w' ⟨v, he, hv⟩ => by
    subst he
    exact hK _ _ ((k v w' hv).out _ (ha.put hd _)))
theorem SegI.vcall {d : Nat} {x : Operand} {y : Value} {xs : List Operand} {ats : Array TypeId} {T : TypeId} {pos : String} {aft : Array Edge} {g : Option (Nat × Bool)} {rest : List Oper} {vs : List Value} {R : Value → World → Prop}
    (hg : gd ops fr g = some true) (hd : Nat.blt d n = true) (hv : Fr.ev fr x = some y) (hx : Fr.evs fr xs = some vs) (hc : VCall P y vs w R)
    (k : ∀ v w', R v w' → SegI ro ds P n ops Q rest ((d, v) :: fr) w') :
    SegI ro ds P n ops Q (⟨some d, .call ⟨.value x, xs.toArray, ats⟩, T, pos, aft, g⟩ :: rest) fr w := .mk fun a ha => by
  refine wpListIn_step fun K hK => ?_
  rw [if_pos (gd_wantedI ha (o := ⟨some d, .call ⟨.value x, xs.toArray, ats⟩, T, pos, aft, g⟩) hg)]
  refine ⟨fun _ _ => trivial, ?_⟩
  rw [Oper.semAt_eq _ _ _ (fun c => noDefer_ne rfl c), ha.evalf]
  rcases hc with ⟨f, cap, rfl, hf, hc⟩ | ⟨l, fn, tmps, assign, body, rfl, hy, hc⟩
  · have e : (execOp (⟨a.tmps, []⟩ : Act).eval ⟨some d, .call ⟨.value x, xs.toArray, ats⟩, T, pos, aft, g⟩).run P w = .ok (.enter f (vs ++ cap.toList).toArray) w := by
      simp [execOp, resolve, ha.fr.ev hv, Deferred.ofValue, invoke, hf.run, ha.fr.evs hx]
    rw [e]
    refine ⟨fun h => (by cases h), ?_⟩
    exact callsIn_wide.2 (Calls.mono hc fun e' w' ⟨v, he, hv⟩ => by
      subst he
      exact hK _ _ ((k v w' hv).out _ (ha.put hd _)))
  · have e : (execOp (⟨a.tmps, []⟩ : Act).eval ⟨some d, .call ⟨.value x, xs.toArray, ats⟩, T, pos, aft, g⟩).run P w = .ok (.round l fn tmps assign body) w := by
      simp [execOp, resolve, ha.fr.ev hv, Deferred.ofValue, invoke, ha.fr.evs hx, hy]
    rw [e]
    refine ⟨fun h => (by cases h), ?_⟩
    exact RoundIn.mono hc fun e' w' ⟨v, he, hv⟩ => by
      subst he
      exact hK _ _ ((k v w' hv).out _ (ha.put hd _))
theorem SegI.split {l : List Oper} (k : Nat) {t : Bool} (hk : Fr.look fr k = some (.bool t)) (ht : t = true → SegI ro ds P n ops Q l ((k, .bool true) :: fr) w)
    (hf : t = false → SegI ro ds P n ops Q l ((k, .bool false) :: fr) w) : SegI ro ds P n ops Q l fr w := .mk fun a ha => by
  cases t
  · exact (hf rfl).out a (ha.again hk)
  · exact (ht rfl).out a (ha.again hk)
theorem SegI.gsplitp {d : Option Nat} {op : Op} {T : TypeId} {pos : String} {aft : Array Edge} {j : Nat} {b : Bool} {rest : List Oper} {k : Nat} {p : Prop} [Decidable p] (_hj : gdst ops j = some k) (hk : Fr.look fr k = some (.bool (decide p)))
    (ht : p → SegI ro ds P n ops Q (⟨d, op, T, pos, aft, some (j, b)⟩ :: rest) ((k, .bool true) :: fr) w)
    (hf : ¬ p → SegI ro ds P n ops Q (⟨d, op, T, pos, aft, some (j, b)⟩ :: rest) ((k, .bool false) :: fr) w) : SegI ro ds P n ops Q (⟨d, op, T, pos, aft, some (j, b)⟩ :: rest) fr w :=
  SegI.split k hk (fun h => ht (of_decide_eq_true h)) (fun h => hf (of_decide_eq_false h))

/-! ### Code -/
theorem CdI.seq {x y : Code} (h : CdI ro ds P n (Exit.then (y.wpIn (Fw ro) 0 P Q) Q) x fr w) : CdI ro ds P n Q (x.seq y) fr w := .mk fun a ha => wpIn_seq (h.out a ha)
theorem CdI.region {id : Nat} {l : List Oper} (h : SegI ro ds P n l.toArray Q l fr w) : CdI ro ds P n Q (.region id l.toArray false) fr w := .mk fun a ha => wpIn_region_lit (h.out a ha)
theorem CdI.skip (h : AtI ds n Q .normal fr w) : CdI ro ds P n Q .skip fr w := .mk fun a ha => wpIn_skip (h.out a ha)
theorem CdI.exit {id : Nat} (h : AtI ds n Q (.exit id) fr w) : CdI ro ds P n Q (.exit id) fr w := .mk fun a ha => wpIn_exit (h.out a ha)
theorem CdI.ret (h : AtI ds n Q .ret fr w) : CdI ro ds P n Q .ret fr w := .mk fun a ha => wpIn_ret (h.out a ha)
theorem CdI.block {id : Nat} {c : Code} (h : CdI ro ds P n (Exit.inBlock id Q) c fr w) : CdI ro ds P n Q (.block id c) fr w := .mk fun a ha => wpIn_block (h.out a ha)
theorem CdI.condT {c : Operand} {x y : Code} (hc : Fr.ev fr c = some (.bool true)) (h : CdI ro ds P n Q x fr w) : CdI ro ds P n Q (.cond c x y) fr w := .mk fun a ha => wpIn_cond_true ((ha.eval c).trans (ha.fr.ev hc)) (h.out a ha)
theorem CdI.condF {c : Operand} {x y : Code} (hc : Fr.ev fr c = some (.bool false)) (h : CdI ro ds P n Q y fr w) : CdI ro ds P n Q (.cond c x y) fr w := .mk fun a ha => wpIn_cond_false ((ha.eval c).trans (ha.fr.ev hc)) (h.out a ha)
theorem AtI.then_ {y : Code} (h : CdI ro ds P n Q y fr w) : AtI ds n (Exit.then (y.wpIn (Fw ro) 0 P Q) Q) .normal fr w := .mk fun a ha => h.out a ha
theorem AtI.then_ret {K : Act → World → Prop} (h : AtI ds n Q .ret fr w) : AtI ds n (Exit.then K Q) .ret fr w := ⟨h.out⟩
theorem AtI.blk {id : Nat} (h : AtI ds n Q .normal fr w) : AtI ds n (Exit.inBlock id Q) .normal fr w := ⟨h.out⟩
theorem AtI.blk_ret {id : Nat} (h : AtI ds n Q .ret fr w) : AtI ds n (Exit.inBlock id Q) .ret fr w := ⟨h.out⟩
/-- Code walked plainly, where no round is run. -/
theorem Cd.inI {c : Code} (h : CdI none [] P n Q c fr w) : Cd P n Q c fr w := .mk fun a ha => wpIn_wide.1 (h.out a ha.d)
theorem CdI.of {c : Code} (h : Cd P n Q c fr w) : CdI none [] P n Q c fr w := .mk fun a ha => wpIn_wide.2 (h.out a ha.o)
/-- A region in which a round may be called. -/
theorem Cd.regionI {id : Nat} {l : List Oper} (h : SegI none [] P n l.toArray Q l fr w) : Cd P n Q (.region id l.toArray false) fr w := Cd.inI (CdI.region h)
theorem AtI.of {e : Exit} (h : At n Q e fr w) : AtI [] n Q e fr w := .mk fun a ha => h.out a ha.o
theorem At.then_I {y : Code} (h : CdI none [] P n Q y fr w) : At n (Exit.then (y.wpIn (Fw none) 0 P Q) Q) .normal fr w := .mk fun a ha => h.out a ha.d
end

/-! ### Iterators -/
/-- What J k p W may go through: p tells the blocks that are the teller's own; J holds behind k rounds. B: where the loop's own records begin. -/
structure Abides (B : Nat) (J : Nat → (Nat → Prop) → World → Prop) : Prop where
  lt : ∀ {k p W}, J k p W → ∀ r, p r → r < W.heap.size
  ext : ∀ {k p W W'}, J k p W → Ext W W' → J k p W'
  put : ∀ {k p W W' r o}, J k p W → W.grownBy W' (some r) → B ≤ r → ¬ p r → W.heap[r]? = some o → o.isCells = false → J k p W'
/-- From W to W' only the blocks of p were written, and what is p' now was p, or is new. -/
structure Kept (p p' : Nat → Prop) (W W' : World) : Prop where
  size : W.heap.size ≤ W'.heap.size
  block : ∀ b, b < W.heap.size → ¬ p b → W'.heap[b]? = W.heap[b]?
  own : ∀ b, p' b → p b ∨ W.heap.size ≤ b
/-- What a round is handed keeps through a turn of a block that is no cells. -/
structure Hands (E : Nat → (Nat → Prop) → World → List Value → Prop) : Prop where
  turn : ∀ {k p W W' row args}, E k p W args → W.grownBy W' row → (∀ r, row = some r → ∃ o, W.heap[r]? = some o ∧ o.isCells = false) → E k p W' args
  sub : ∀ {k p q W args}, E k p W args → (∀ r, q r → p r) → E k q W args
/-- The iterator calls what it is handed N times, with arguments as E tells, and returns. rd: the blocks that it reads between the rounds. -/
def Iter (P : Program) (gf : FuncId) (lb : List Value) (rd : List Nat) (w : World) (N : Nat) (E : Nat → (Nat → Prop) → World → List Value → Prop) : Prop :=
  ∀ (fn : Fn) (first cap : Array Value) (J : Nat → (Nat → Prop) → World → Prop) (p : Nat → Prop) (W : World), Ext w W → Abides W.heap.size J → J 0 p W → (∀ r ∈ rd, ¬ p r) →
    (∀ k p W args, k < N → J k p W → E k p W args → VCall P (.func fn first cap) args W fun v W' => v = .bool true ∧ ∃ p', J (k + 1) p' W' ∧ Kept p p' W W') →
    Ret P gf (.func fn first cap :: lb).toArray W fun _ W' => ∃ p', J N p' W'

theorem Kept.refl (p : Nat → Prop) (W : World) : Kept p p W W := ⟨Nat.le_refl _, fun _ _ _ => rfl, fun _ h => .inl h⟩
theorem Kept.ext {p : Nat → Prop} {W W' : World} (h : Ext W W') : Kept p p W W' := ⟨h.size, fun b hb _ => h.block b hb, fun _ h => .inl h⟩
theorem grown_put {W : World} {r : Nat} {o : Obj} : W.grownBy (W.putObj r o) (some r) :=
  ⟨rfl, rfl, rfl, by simp, fun k _ hk => World.putObj_heap_other (fun e => hk (by rw [e]))⟩
theorem Bx.keeps {W W' : World} {b : Nat} {cs : List Value} (h : Bx W b cs) (he : W'.heap[b]? = W.heap[b]?) : Bx W' b cs := by
  obtain ⟨T, hT⟩ := h
  exact ⟨T, by rw [he]; exact hT⟩
theorem Bx.cells {W : World} {b : Nat} {cs : List Value} (h : Bx W b cs) {o : Obj} (ho : W.heap[b]? = some o) (hc : o.isCells = false) : False := by
  obtain ⟨T, hT⟩ := h
  rw [hT] at ho
  cases ho
  cases hc

section
variable {P : Program} {n : Nat} {fr : Fr} {w : World}
theorem foldl_fr : ∀ (ps : List Tmp) (vs : List Value) (fr : Fr) (tmps : Array Value), ps.length = vs.length → (∀ p ∈ ps, Nat.blt p n = true) → Fr.Of fr n ⟨tmps, []⟩ →
    Fr.Of ((ps.zip vs).foldl (fun f p => p :: f) fr) n ⟨(ps.zip vs).foldl (fun t (p : Tmp × Value) => t.setIfInBounds p.1 p.2) tmps, []⟩
  | [], vs, fr, tmps, _, _, h => by simpa using h
  | p :: ps, [], fr, tmps, hl, _, _ => by simp at hl
  | p :: ps, v :: vs, fr, tmps, hl, hp, h => by
    simp only [List.zip_cons_cons, List.foldl_cons]
    exact foldl_fr ps vs _ _ (by simpa using hl) (fun q hq => hp q (List.mem_cons_of_mem _ hq)) (h.put (hp p List.mem_cons_self) v)

/-- The loop over an iterator, at the outermost. -/
theorem Cd.range {Q : Exit → Act → World → Prop} {g : Operand} {ps : List Tmp} {assign body : Code} {gf : FuncId} {lb : List Value} {rd : List Nat} {N : Nat} {E : Nat → (Nat → Prop) → World → List Value → Prop} {q0 : Nat → Prop}
    (F : List Value → Fr) (I : Nat → (Nat → Prop) → World → Prop)
    (hg : Fr.ev fr g = some (.func (.func gf) #[] lb.toArray)) (hown : Own P gf) (hit : Iter P gf lb rd w N E) (hE : Hands E)
    (hps : ps.all (fun p => Nat.blt p n) = true) (hlen : ∀ k p W args, E k p W args → args.length = ps.length)
    (hI : Abides w.heap.size I) (h0 : I 0 q0 w) (hrd : ∀ r ∈ rd, ¬ q0 r ∧ r < w.heap.size)
    (hassign : ∀ l args W (Q' : Exit → Act → World → Prop), args.length = ps.length → AtI [] n Q' .normal (F args) W → CdI (some l) [] P n Q' assign ((ps.zip args).foldl (fun f p => p :: f) fr) W)
    (hbody : ∀ l k q W args, k < N → I k q W → E k q W args → CdI (some l) [] P n (fun e _ W' => e = .normal ∧ ∃ q', I (k + 1) q' W' ∧ Kept q q' W W') body (F args) W)
    (hdone : ∀ D q W, I N q W → ¬ q D → W.heap[D]? = some (.deferred (some [])) → w.heap.size ≤ D → AtI [{ target := .collected D, args := #[] }] n Q .normal fr W) :
    CdI none [] P n Q (Code.rangeFunc g ps.toArray assign body) fr w := .mk fun a ha => by
  refine wpIn_rangeFunc ?_
  intro fn _
  have hev : a.eval g = .func (.func gf) #[] lb.toArray := (ha.eval g).trans (ha.fr.ev hg)
  obtain ⟨rec, hrec⟩ : ∃ rec : LoopState → Option Code → Loop, rec = fun st pe => { state := st, pending := pe, fn, tmps := a.tmps, params := ps.toArray, assign, body, defers := w.heap.size } := ⟨_, rfl⟩
  obtain ⟨W1, hW1⟩ : ∃ W1, (w.alloc (.deferred (some []))).alloc (.loop (rec .ready none)) = W1 := ⟨_, rfl⟩
  have hsz1 : W1.heap.size = w.heap.size + 2 := by rw [← hW1]; simp
  have hL1 : W1.heap[w.heap.size + 1]? = some (.loop (rec .ready none)) := by
    rw [← hW1]; have := World.alloc_heap_new (w.alloc (.deferred (some []))) (.loop (rec .ready none)); rwa [World.size_alloc] at this
  have hK1 : W1.heap[w.heap.size]? = some (.deferred (some [])) := by
    rw [← hW1]; exact (Below.heap_alloc _ _ _ (by simp)).trans (World.alloc_heap_new w _)
  have hX1 : Ext w W1 := by rw [← hW1]; exact (Ext.alloc w _).trans (Ext.alloc _ _)
  have hI1 : I 0 q0 W1 := hI.ext h0 hX1
  have hq0 : ∀ r, q0 r → r < w.heap.size := hI.lt h0
  refine ⟨w.heap.size + 1, [{ target := .collected w.heap.size, args := #[] }], W1, { target := .fn (.func gf) lb.toArray, args := #[.func (.yield (w.heap.size + 1)) #[] #[]] }, W1, gf,
    (.func (.yield (w.heap.size + 1)) #[] #[] :: lb).toArray, W1, ?_, ?_, ?_, ?_, ?_, ?_⟩
  · rw [← hW1, hrec]; exact run_enterLoop_outer _ _ _ _ _
  · simp only [resolve, hev]
    simp [go_sem]
  · intro f' _; trivial
  · simp [invoke, hown.run]
  · intro h; cases h
  · refine callsIn_wide.2 (Calls.mono (hit (.yield (w.heap.size + 1)) #[] #[]
      (fun k p W => ∃ q, (∀ r, p r ↔ q r ∨ r = w.heap.size + 1 ∨ r = w.heap.size) ∧ I k q W ∧ W.heap[w.heap.size + 1]? = some (.loop (rec .ready none)) ∧ W.heap[w.heap.size]? = some (.deferred (some [])) ∧ ¬ q (w.heap.size + 1) ∧ ¬ q w.heap.size)
      (fun r => q0 r ∨ r = w.heap.size + 1 ∨ r = w.heap.size) W1 hX1 ⟨?_, ?_, ?_⟩ ?_ ?_ ?_) ?_)
    · rintro k p W ⟨q, hp, hi, hl, hd, _, _⟩ r hr
      rcases (hp r).1 hr with h | rfl | rfl
      · exact hI.lt hi r h
      · exact (Array.getElem?_eq_some_iff.1 hl).1
      · exact (Array.getElem?_eq_some_iff.1 hd).1
    · rintro k p W W' ⟨q, hp, hi, hl, hd, h1, h2⟩ hx
      exact ⟨q, hp, hI.ext hi hx, (hx.block _ (Array.getElem?_eq_some_iff.1 hl).1).trans hl, (hx.block _ (Array.getElem?_eq_some_iff.1 hd).1).trans hd, h1, h2⟩
    · rintro k p W W' r o ⟨q, hp, hi, hl, hd, h1, h2⟩ hgr hB hnp ho hoc
      have hne1 : w.heap.size + 1 ≠ r := by omega
      have hne2 : w.heap.size ≠ r := by omega
      exact ⟨q, hp, hI.put hi hgr (by omega) (fun h => hnp ((hp r).2 (.inl h))) ho hoc, (hgr.block _ (Array.getElem?_eq_some_iff.1 hl).1 (by simpa using hne1)).trans hl, (hgr.block _ (Array.getElem?_eq_some_iff.1 hd).1 (by simpa using hne2)).trans hd, h1, h2⟩
    · exact ⟨q0, fun _ => Iff.rfl, hI1, hL1, hK1, fun h => by have := hq0 _ h; omega, fun h => by have := hq0 _ h; omega⟩
    · intro r hr
      have := hrd r hr
      rintro (h | rfl | rfl)
      · exact this.1 h
      · omega
      · omega
    · rintro k p W args hk ⟨q, hp, hi, hl, hd, h1, h2⟩ he
      have hal := hlen _ _ _ _ he
      have hlt := (Array.getElem?_eq_some_iff.1 hl).1
      have hltD := (Array.getElem?_eq_some_iff.1 hd).1
      have hy := run_yield (P := P) (args := args.toArray) hl (by rw [hrec]; simpa using hal)
      rw [hrec] at hy
      refine .inr ⟨w.heap.size + 1, fn, _, assign, body, rfl, hy, roundIn_of_wpIn trivial ?_⟩
      have hfr : Fr.Of ((ps.zip args).foldl (fun f p => p :: f) fr) n ⟨(ps.toArray.zip args.toArray).foldl (fun t (p, v) => t.setIfInBounds p v) a.tmps, []⟩ := by
        have h := foldl_fr (n := n) ps args fr a.tmps hal.symm (fun p hp => List.all_eq_true.1 hps p hp) ha.fr
        have e : (ps.toArray.zip args.toArray).foldl (fun t (p, v) => t.setIfInBounds p v) a.tmps = (ps.zip args).foldl (fun t (p : Tmp × Value) => t.setIfInBounds p.1 p.2) a.tmps := by
          rw [← Array.foldl_toList, Array.toList_zip]
        rw [e]; exact h
      refine (hassign (w.heap.size + 1) args W _ hal (.mk fun a1 ha1 => ?_)).out _ hfr.d
      refine ⟨_, run_beginRound hl (by rw [hrec]), ?_⟩
      have hl2 : (W.putObj (w.heap.size + 1) (.loop { rec .ready none with state := .busy })).heap[w.heap.size + 1]? = some (.loop { rec .ready none with state := .busy }) := World.putObj_heap_same hlt
      have hi2 : I k q (W.putObj (w.heap.size + 1) (.loop { rec .ready none with state := .busy })) := hI.put hi grown_put (by omega) h1 hl rfl
      have he2 : E k q (W.putObj (w.heap.size + 1) (.loop { rec .ready none with state := .busy })) args := hE.turn (hE.sub he (fun r h => (hp r).2 (.inl h))) grown_put (fun r hr => by cases hr; exact ⟨_, hl, rfl⟩)
      refine wpIn_mono ((hbody (w.heap.size + 1) k q _ args hk hi2 he2).out _ ha1) ?_
      rintro e a3 W3 ⟨rfl, q', hi3, hkp⟩
      have hsz2 : (W.putObj (w.heap.size + 1) (.loop { rec .ready none with state := .busy })).heap.size = W.heap.size := by simp
      have hl3 : W3.heap[w.heap.size + 1]? = some (.loop { rec .ready none with state := .busy }) := (hkp.block _ (by rw [hsz2]; exact hlt) h1).trans hl2
      have hd3 : W3.heap[w.heap.size]? = some (.deferred (some [])) := (hkp.block _ (by rw [hsz2]; exact hltD) h2).trans ((World.putObj_heap_other (by omega)).trans hd)
      have n1 : ¬ q' (w.heap.size + 1) := fun h => by
        rcases hkp.own _ h with h | h
        · exact h1 h
        · rw [hsz2] at h; omega
      have n2 : ¬ q' w.heap.size := fun h => by
        rcases hkp.own _ h with h | h
        · exact h2 h
        · rw [hsz2] at h; omega
      have hend := run_endRound (P := P) none hl3
      have hlt3 := (Array.getElem?_eq_some_iff.1 hl3).1
      refine ⟨_, _, hend, _, rfl, rfl, fun r => q' r ∨ r = w.heap.size + 1 ∨ r = w.heap.size, ⟨q', fun _ => Iff.rfl, hI.put hi3 grown_put (by omega) n1 hl3 rfl, ?_, (World.putObj_heap_other (by omega)).trans hd3, n1, n2⟩, ?_, ?_, ?_⟩
      · rw [World.putObj_heap_same hlt3, hrec]; rfl
      · have := hkp.size; rw [hsz2] at this; simpa using this
      · intro b hb hnb
        have hq : ¬ q b := fun h => hnb ((hp b).2 (.inl h))
        have hb1 : b ≠ w.heap.size + 1 := fun h => hnb ((hp b).2 (.inr (.inl h)))
        rw [World.putObj_heap_other hb1, hkp.block b (by rw [hsz2]; exact hb) hq, World.putObj_heap_other hb1]
      · rintro b (h | rfl | rfl)
        · rcases hkp.own b h with h | h
          · exact .inl ((hp b).2 (.inl h))
          · rw [hsz2] at h; exact .inr h
        · exact .inl ((hp _).2 (.inr (.inl rfl)))
        · exact .inl ((hp _).2 (.inr (.inr rfl)))
    · rintro e W2 ⟨v, rfl, p', q, hp, hi, hl, hd, h1, h2⟩
      refine ⟨none, _, by have := run_endLoop (P := P) hl (by rw [hrec]; simp); rw [hrec] at this; exact this, ?_⟩
      exact (hdone w.heap.size q _ (hI.put hi grown_put (by omega) h1 hl rfl) h2 ((World.putObj_heap_other (by omega)).trans hd) (Nat.le_refl _)).out _ ⟨ha.fr, by rw [ha.df]; rfl⟩
end

theorem Sl.turned {W W' : World} {row : Option Nat} {k m : Nat} {v : Value} {cs : List Value} (h : Sl W k v m cs) (hg : W.grownBy W' row) (hr : ∀ r, row = some r → ∃ o, W.heap[r]? = some o ∧ o.isCells = false) : Sl W' k v m cs := by
  obtain ⟨ao, c, rfl, h1, h2, h3⟩ := h
  refine ⟨ao, c, rfl, h1, fun a ha j u hj => ?_, h3⟩
  have hc := h2 a ha j u hj
  refine hg.cell hc (fun e => ?_)
  obtain ⟨o, ho, hoc⟩ := hr _ e.symm
  unfold World.cell? at hc
  rw [ho] at hc
  cases o with
  | cells => cases hoc
  | _ => simp at hc
/-- A slice's cells do not lie in blocks of p. -/
def OffP (p : Nat → Prop) (v : Value) : Prop := ∀ a m c, v = .slice (some a) m c → 0 < m → ¬ p a.block
theorem OffP.sub {p q : Nat → Prop} {v : Value} (h : OffP p v) (hq : ∀ r, q r → p r) : OffP q v := fun a m c hv hm hp => h a m c hv hm (hq _ hp)
theorem OffP.above {p : Nat → Prop} {v : Value} {N : Nat} (h : Above N v) (hp : ∀ r, p r → r < N) : OffP p v := fun a m c hv _ hq => by have := h a m c hv; have := hp _ hq; omega
theorem Sl.keptP {W W' : World} {p p' : Nat → Prop} {k m : Nat} {v : Value} {cs : List Value} (h : Sl W k v m cs) (hk : Kept p p' W W') (ho : OffP p v) : Sl W' k v m cs := by
  obtain ⟨ao, c, rfl, h1, h2, h3⟩ := h
  refine ⟨ao, c, rfl, h1, fun a ha j u hj => ?_, h3⟩
  have hm : 0 < m := by
    rcases Nat.eq_zero_or_pos m with rfl | h
    · have : cs = [] := List.eq_nil_of_length_eq_zero (by simpa using h1)
      subst this; simp at hj
    · exact h
  have hc := h2 a ha j u hj
  have hb : (a.add j).block = a.block := by unfold Addr.add; split <;> rfl
  have hn := ho a m c (by rw [ha]) hm
  have he := hk.block _ (cell_lt hc) (by rw [hb]; exact hn)
  unfold World.cell? at hc ⊢
  rw [he]; exact hc
/-- Behind a step the slice still lies apart. -/
theorem OffP.kept {W W' : World} {p p' : Nat → Prop} {k m : Nat} {v : Value} {cs : List Value} (ho : OffP p v) (h : Sl W (k + 1) v m cs) (hk : Kept p p' W W') : OffP p' v := fun a m' c hv hm hp => by
  rcases hk.own _ hp with h1 | h1
  · exact ho a m' c hv hm h1
  · have := h.lt a m' c hv hm; omega
theorem Kept.trans_ext {p p' : Nat → Prop} {W W1 W2 : World} (h : Ext W W1) (k : Kept p p' W1 W2) : Kept p p' W W2 :=
  ⟨Nat.le_trans h.size k.size, fun b hb hn => (k.block b (Nat.lt_of_lt_of_le hb h.size) hn).trans (h.block b hb), fun b hb => (k.own b hb).imp id (Nat.le_trans h.size)⟩
theorem Kept.ext_trans {p p' : Nat → Prop} {W W1 W2 : World} (k : Kept p p' W W1) (h : Ext W1 W2) : Kept p p' W W2 :=
  ⟨Nat.le_trans k.size h.size, fun b hb hn => (h.block b (Nat.lt_of_lt_of_le hb k.size)).trans (k.block b hb hn), k.own⟩
theorem Yd.eqlNilF {P : Program} [Tys P] {n : Nat} {fr : Fr} {w : World} {T U U' : TypeId} {x y : Operand} {fn : Fn} {a b : Array Value} (hU : fncOf P U = some true) (hx : Fr.ev fr x = some (.func fn a b)) (hy : Fr.ev fr y = some .nilFunc) : Yd P n (.binOp .eql U x y U') T fr w (.bool false) w :=
  .bin hx hy (by simp [eqGuard]) (by
    obtain ⟨p, q, r, h⟩ := und_fnc hU
    have he : (Op.equal U (.func fn a b) .nilFunc).run P w = .ok false w := by
      unfold Op.equal
      rw [show Op.maxDepth = 9999 + 1 from rfl, Op.equalIn.eq_2, Sem.run_bind, run_underlying h]
      rfl
    simp only [binOp]
    rw [Sem.run_bind, he]
    rfl)
/-! ### Functions that hold a loop over an iterator -/
/-- What the end of such a function is asked. -/
def DoneM (P : Program) (fn : Func) (R : Value → World → Prop) : Exit → Act → World → Prop := bodyPostM (Fw none) 0 P fn fun e w' => ∃ v, e = .returned v ∧ R v w'
section
variable {P : Program} {n : Nat} {fr : Fr} {w : World}
theorem Ret.bodyM {f : FuncId} {fn : Func} {c : Code} {args : List Value} {R : Value → World → Prop} (hf : P.funcs[f]? = some fn) (hb : fn.body = some c) (hn : fn.ntmps = n) (hle : Nat.ble args.length n = true)
    (h : Cd P n (DoneM P fn R) c (frArgs 0 args) w) : Ret P f args.toArray w R := by
  refine (callsIn_wide (n := 0)).1 (callsIn_of_wp_marks hf hb trivial ((CdI.of h).out _ ⟨⟨rfl, ?_, ?_⟩, rfl⟩))
  · have := Nat.le_of_ble_eq_true hle
    simp [hn]; omega
  · intro k v hk
    obtain ⟨_, h2⟩ := frArgs_mem args 0 (k, v) (Fr.mem_of_look hk)
    left
    have hlt : k < args.length := by
      rcases Nat.lt_or_ge k args.length with h' | h'
      · exact h'
      · simp [List.getElem?_eq_none h'] at h2
    rw [Array.getElem?_append_left (by simpa using hlt)]
    simpa using h2
theorem AtI.retD {fn : Func} {R : Value → World → Prop} {rs : List ResultVar} {D : Nat} (hr : fn.results = rs.toArray) {vs : List Value} (hK : w.heap[D]? = some (.deferred (some []))) (h : ResIs P fr (w.putObj D (.deferred none)) rs vs) (hR : R (resOne vs) (w.putObj D (.deferred none))) :
    AtI [{ target := .collected D, args := #[] }] n (DoneM P fn R) .ret fr w := .mk fun a ha => by
  show LeavesInM (Fw none) 0 P fn a.tmps _ a.defers .returning w
  rw [ha.df]
  exact ⟨by simp, .inl ⟨D, _, rfl, run_takeDeferred hK, _, results_run (n := n) (fr := fr) hr ha.fr h, _, rfl, hR⟩⟩
theorem AtI.finD {fn : Func} {R : Value → World → Prop} {rs : List ResultVar} {D : Nat} (hr : fn.results = rs.toArray) {vs : List Value} (hK : w.heap[D]? = some (.deferred (some []))) (h : ResIs P fr (w.putObj D (.deferred none)) rs vs) (hR : R (resOne vs) (w.putObj D (.deferred none))) :
    AtI [{ target := .collected D, args := #[] }] n (DoneM P fn R) .normal fr w := .mk fun a ha => by
  show LeavesInM (Fw none) 0 P fn a.tmps _ a.defers .returning w
  rw [ha.df]
  exact ⟨by simp, .inl ⟨D, _, rfl, run_takeDeferred hK, _, results_run (n := n) (fr := fr) hr ha.fr h, _, rfl, hR⟩⟩
end
end Go.Proofs.Ytccppgpedlfjdaa
