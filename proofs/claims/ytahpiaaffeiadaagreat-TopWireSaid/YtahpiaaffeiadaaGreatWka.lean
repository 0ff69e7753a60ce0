/- Walk rules, part one: what is known of a frame, and the rules that step through code by it. Program-free: it speaks of any program P. -/
import Derived.WalkKit
import Derived.WalkSpells
import Derived.Deep.Quiet
namespace Go.Proofs.YtahpiaaffeiadaaGreat
open Go Go.RowKit

/-- What is known of a frame: the newest entry of a slot counts. -/
abbrev Fr := List (Nat × Value)

def Fr.look : Fr → Nat → Option Value
  | [], _ => none
  | (k, v) :: r, n => match Nat.beq n k with
    | true => some v
    | false => Fr.look r n

def Fr.ev (fr : Fr) : Operand → Option Value
  | .tmp t => Fr.look fr t
  | .const v => some v
  | .global g => some (.pointer (some ⟨g, 0, none⟩))
  | .func f => some (.func (.func f) #[] #[])

def Fr.evs (fr : Fr) : List Operand → Option (List Value)
  | [] => some []
  | x :: r => match Fr.ev fr x, Fr.evs fr r with
    | some v, some vs => some (v :: vs)
    | _, _ => none

/-- How many slots a frame has, and which calls it has deferred. -/
structure Fm where
  n : Nat
  D : List Deferred

/-- The frame a, of n slots, is as fr tells. -/
structure Fr.Of (fr : Fr) (n : Fm) (a : Act) : Prop where
  defers : a.defers = n.D
  size : a.tmps.size = n.n
  known : ∀ k v, Fr.look fr k = some v → a.tmps[k]? = some v ∨ (v = undef ∧ a.tmps[k]? = none)

theorem Fr.Of.getD {fr : Fr} {n : Fm} {a : Act} (h : Fr.Of fr n a) {k : Nat} {v : Value} (hk : Fr.look fr k = some v) : a.tmps.getD k undef = v := by
  rcases h.known k v hk with h1 | ⟨rfl, h1⟩ <;> simp [Array.getD_eq_getD_getElem?, h1]

theorem Fr.Of.ev {fr : Fr} {n : Fm} {a : Act} (h : Fr.Of fr n a) {x : Operand} {v : Value} (hx : Fr.ev fr x = some v) : a.eval x = v := by
  cases x with
  | tmp t => exact h.getD hx
  | const c => cases hx; rfl
  | global g => cases hx; rfl
  | func f => cases hx; rfl

theorem Fr.Of.evs {fr : Fr} {n : Fm} {a : Act} (h : Fr.Of fr n a) : ∀ {xs : List Operand} {vs : List Value}, Fr.evs fr xs = some vs → xs.map a.eval = vs
  | [], vs, hx => by simpa [Fr.evs] using hx
  | x :: r, vs, hx => by
    unfold Fr.evs at hx
    split at hx
    · rename_i v vs' h1 h2
      cases hx
      simp [h.ev h1, h.evs h2]
    · cases hx

theorem Fr.look_cons_same {fr : Fr} {d k : Nat} {v : Value} (h : d = k) : Fr.look ((d, v) :: fr) k = some v := by
  subst h; simp [Fr.look]
theorem Fr.look_cons_other {fr : Fr} {d k : Nat} {v : Value} (h : d ≠ k) : Fr.look ((d, v) :: fr) k = Fr.look fr k := by
  have : Nat.beq k d = false := by
    rw [Bool.eq_false_iff]
    exact fun e => h (Nat.eq_of_beq_eq_true e).symm
  simp [Fr.look, this]

theorem Fr.Of.put {fr : Fr} {n : Fm} {a : Act} (h : Fr.Of fr n a) {d : Nat} (hd : Nat.blt d n.n = true) (v : Value) : Fr.Of ((d, v) :: fr) n (a.put (some d) v) := by
  have hlt : d < a.tmps.size := by rw [h.size]; exact Nat.le_of_ble_eq_true hd
  refine ⟨h.defers, by simp [Act.put, h.size], fun k u hk => ?_⟩
  by_cases e : d = k
  · subst e
    rw [Fr.look_cons_same rfl] at hk
    cases hk
    exact Or.inl (by simp [Act.put, hlt])
  · rw [Fr.look_cons_other e] at hk
    have := h.known k u hk
    simpa [Act.put, Array.getElem?_setIfInBounds_ne e] using this

theorem Fr.Of.put_none {fr : Fr} {n : Fm} {a : Act} (h : Fr.Of fr n a) (v : Value) : Fr.Of fr n (a.put none v) := h

/-- What fr' tells, fr tells too. -/
def Fr.Sub (fr' fr : Fr) : Prop := ∀ p ∈ fr', Fr.look fr p.1 = some p.2
theorem Fr.Sub.nil (fr : Fr) : Fr.Sub [] fr := fun _ h => by cases h
theorem Fr.Sub.cons {fr' fr : Fr} {k : Nat} {v : Value} (h : Fr.look fr k = some v) (hs : Fr.Sub fr' fr) : Fr.Sub ((k, v) :: fr') fr := fun p hp => by
  rcases List.mem_cons.1 hp with rfl | hp
  · exact h
  · exact hs p hp
theorem Fr.mem_of_look : ∀ {fr : Fr} {k : Nat} {v : Value}, Fr.look fr k = some v → (k, v) ∈ fr
  | (d, u) :: r, k, v, h => by
    by_cases e : d = k
    · subst e; rw [Fr.look_cons_same rfl] at h; cases h; exact List.mem_cons_self
    · rw [Fr.look_cons_other e] at h; exact List.mem_cons_of_mem _ (Fr.mem_of_look h)
theorem Fr.Of.sub {fr fr' : Fr} {n : Fm} {a : Act} (h : Fr.Of fr n a) (hs : Fr.Sub fr' fr) : Fr.Of fr' n a :=
  ⟨h.defers, h.size, fun k v hk => h.known k v (hs _ (Fr.mem_of_look hk))⟩

/-! ### What is shown of a piece of code, from every frame that is as fr tells. -/
section
variable (P : Program) (n : Fm)

structure Seg (ops : Array Oper) (Q : Exit → Act → World → Prop) (l : List Oper) (fr : Fr) (w : World) : Prop where
  out : ∀ a, Fr.Of fr n a → wpList P ops Q l a w
structure Cd (Q : Exit → Act → World → Prop) (c : Code) (fr : Fr) (w : World) : Prop where
  out : ∀ a, Fr.Of fr n a → c.wp P Q a w
structure At (Q : Exit → Act → World → Prop) (e : Exit) (fr : Fr) (w : World) : Prop where
  out : ∀ a, Fr.Of fr n a → Q e a w

/-- The operation yields v and leaves the world w'. -/
structure Yd (op : Op) (T : TypeId) (fr : Fr) (w : World) (v : Value) (w' : World) : Prop where
  out : ∀ a, Fr.Of fr n a → ∀ d pos aft g, (execOp a.eval ⟨d, op, T, pos, aft, g⟩).run P w = .ok (.value v) w'
/-- The operation yields nothing and leaves the world w'. -/
structure Ys (op : Op) (T : TypeId) (fr : Fr) (w : World) (w' : World) : Prop where
  out : ∀ a, Fr.Of fr n a → ∀ d pos aft g, (execOp a.eval ⟨d, op, T, pos, aft, g⟩).run P w = .ok .skip w'

/-- The slot of the operation that a guard looks at. -/
def gdst (ops : Array Oper) (j : Nat) : Option Nat := (ops[j]?).bind (·.dst)

def gval (fr : Fr) (k : Nat) (b : Bool) : Option Bool :=
  match Fr.look fr k with
  | some (.bool t) => some (t == b)
  | some (.tuple _) => some false
  | _ => none

/-- Does the guard let the operation run? -/
def gd (ops : Array Oper) (fr : Fr) : Option (Nat × Bool) → Option Bool
  | none => some true
  | some (j, b) => match gdst ops j with
    | some k => gval fr k b
    | none => none
end

section
variable {P : Program} {n : Fm} {ops : Array Oper} {Q : Exit → Act → World → Prop} {fr : Fr} {w w' : World}

theorem gd_wanted {a : Act} (h : Fr.Of fr n a) {o : Oper} {t : Bool} (hg : gd ops fr o.guard = some t) : Region.wanted o (yielded ops a.tmps) = t := by
  unfold gd at hg
  unfold Region.wanted
  split at hg
  · rename_i hgn; cases hg; simp [hgn]
  · rename_i j b hgs
    simp only [hgs]
    split at hg
    · rename_i k hk
      unfold gval at hg
      unfold gdst at hk
      unfold yielded
      rw [hk]
      simp only [Option.bind_some]
      split at hg
      · rename_i u hu
        cases hg
        rcases h.known k _ hu with h1 | ⟨h1, h2⟩
        · rw [h1]; rfl
        · simp [undef] at h1
      · rename_i u hu
        cases hg
        rcases h.known k _ hu with h1 | ⟨h1, h2⟩
        · rw [h1]; rfl
        · rw [h2]; rfl
      · cases hg
    · cases hg

/-- One operation. -/
theorem Seg.step {d : Nat} {op : Op} {T : TypeId} {pos : String} {aft : Array Edge} {g : Option (Nat × Bool)} {rest : List Oper} {v : Value}
    (hg : gd ops fr g = some true) (hd : Nat.blt d n.n = true) (hy : Yd P n op T fr w v w') (k : Seg P n ops Q rest ((d, v) :: fr) w') :
    Seg P n ops Q (⟨some d, op, T, pos, aft, g⟩ :: rest) fr w := .mk fun a ha => by
  refine wpList_step fun K hK => ?_
  rw [if_pos (gd_wanted ha (o := ⟨some d, op, T, pos, aft, g⟩) hg)]
  unfold Oper.wp
  rw [hy.out a ha (some d) pos aft g]
  exact hK _ _ (k.out _ (ha.put hd _))

/-- One operation that fills no slot. -/
theorem Seg.step0 {op : Op} {T : TypeId} {pos : String} {aft : Array Edge} {g : Option (Nat × Bool)} {rest : List Oper}
    (hg : gd ops fr g = some true) (hy : Ys P n op T fr w w') (k : Seg P n ops Q rest fr w') :
    Seg P n ops Q (⟨none, op, T, pos, aft, g⟩ :: rest) fr w := .mk fun a ha => by
  refine wpList_step fun K hK => ?_
  rw [if_pos (gd_wanted ha (o := ⟨none, op, T, pos, aft, g⟩) hg)]
  unfold Oper.wp
  rw [hy.out a ha none pos aft g]
  exact hK _ _ (k.out _ ha)

/-- An operation that its guard passes over. -/
theorem Seg.skip {d : Nat} {op : Op} {T : TypeId} {pos : String} {aft : Array Edge} {g : Option (Nat × Bool)} {rest : List Oper}
    (hg : gd ops fr g = some false) (hd : Nat.blt d n.n = true) (k : Seg P n ops Q rest ((d, undef) :: fr) w) :
    Seg P n ops Q (⟨some d, op, T, pos, aft, g⟩ :: rest) fr w := .mk fun a ha => by
  refine wpList_step fun K hK => ?_
  rw [if_neg (by rw [gd_wanted ha (o := ⟨some d, op, T, pos, aft, g⟩) hg]; simp)]
  exact hK _ _ (k.out _ (ha.put hd _))

theorem Seg.skip0 {op : Op} {T : TypeId} {pos : String} {aft : Array Edge} {g : Option (Nat × Bool)} {rest : List Oper}
    (hg : gd ops fr g = some false) (k : Seg P n ops Q rest fr w) :
    Seg P n ops Q (⟨none, op, T, pos, aft, g⟩ :: rest) fr w := .mk fun a ha => by
  refine wpList_step fun K hK => ?_
  rw [if_neg (by rw [gd_wanted ha (o := ⟨none, op, T, pos, aft, g⟩) hg]; simp)]
  exact hK _ _ (k.out _ ha)

theorem Seg.nil (h : At n Q .normal fr w) : Seg P n ops Q [] fr w := .mk fun a ha => h.out a ha

/-- What is known may be said otherwise, or forgotten. -/
theorem Seg.sub {fr' : Fr} {l : List Oper} (hs : Fr.Sub fr' fr) (h : Seg P n ops Q l fr' w) : Seg P n ops Q l fr w := .mk fun a ha => h.out a (ha.sub hs)
theorem Cd.sub {fr' : Fr} {c : Code} (hs : Fr.Sub fr' fr) (h : Cd P n Q c fr' w) : Cd P n Q c fr w := .mk fun a ha => h.out a (ha.sub hs)
theorem At.sub {fr' : Fr} {e : Exit} (hs : Fr.Sub fr' fr) (h : At n Q e fr' w) : At n Q e fr w := .mk fun a ha => h.out a (ha.sub hs)

theorem Fr.Of.again {fr : Fr} {n : Fm} {a : Act} (h : Fr.Of fr n a) {k : Nat} {v : Value} (hk : Fr.look fr k = some v) : Fr.Of ((k, v) :: fr) n a :=
  ⟨h.defers, h.size, fun j u hj => by
    by_cases e : k = j
    · subst e
      rw [Fr.look_cons_same rfl] at hj
      cases hj
      exact h.known _ _ hk
    · rw [Fr.look_cons_other e] at hj
      exact h.known _ _ hj⟩

/-- A slot's Bool is decided: both ways are walked. -/
theorem Seg.split {l : List Oper} (k : Nat) {t : Bool} (hk : Fr.look fr k = some (.bool t)) (ht : t = true → Seg P n ops Q l ((k, .bool true) :: fr) w)
    (hf : t = false → Seg P n ops Q l ((k, .bool false) :: fr) w) : Seg P n ops Q l fr w := .mk fun a ha => by
  cases t
  · exact (hf rfl).out a (ha.again hk)
  · exact (ht rfl).out a (ha.again hk)
/-- The same where the Bool is a decided proposition. -/
theorem Seg.splitp {l : List Oper} (k : Nat) {p : Prop} [Decidable p] (hk : Fr.look fr k = some (.bool (decide p))) (ht : p → Seg P n ops Q l ((k, .bool true) :: fr) w)
    (hf : ¬ p → Seg P n ops Q l ((k, .bool false) :: fr) w) : Seg P n ops Q l fr w :=
  Seg.split k hk (fun h => ht (of_decide_eq_true h)) (fun h => hf (of_decide_eq_false h))

/-- A guard that is not decided: both ways are walked. -/
theorem Seg.gsplit {d : Option Nat} {op : Op} {T : TypeId} {pos : String} {aft : Array Edge} {j : Nat} {b : Bool} {rest : List Oper} {k : Nat} {t : Bool} (_hj : gdst ops j = some k) (hk : Fr.look fr k = some (.bool t))
    (ht : t = true → Seg P n ops Q (⟨d, op, T, pos, aft, some (j, b)⟩ :: rest) ((k, .bool true) :: fr) w)
    (hf : t = false → Seg P n ops Q (⟨d, op, T, pos, aft, some (j, b)⟩ :: rest) ((k, .bool false) :: fr) w) : Seg P n ops Q (⟨d, op, T, pos, aft, some (j, b)⟩ :: rest) fr w :=
  Seg.split k hk ht hf
theorem Seg.gsplitp {d : Option Nat} {op : Op} {T : TypeId} {pos : String} {aft : Array Edge} {j : Nat} {b : Bool} {rest : List Oper} {k : Nat} {p : Prop} [Decidable p] (_hj : gdst ops j = some k) (hk : Fr.look fr k = some (.bool (decide p)))
    (ht : p → Seg P n ops Q (⟨d, op, T, pos, aft, some (j, b)⟩ :: rest) ((k, .bool true) :: fr) w)
    (hf : ¬ p → Seg P n ops Q (⟨d, op, T, pos, aft, some (j, b)⟩ :: rest) ((k, .bool false) :: fr) w) : Seg P n ops Q (⟨d, op, T, pos, aft, some (j, b)⟩ :: rest) fr w :=
  Seg.splitp k hk ht hf

/-! ### Code -/
theorem Cd.seq {x y : Code} (h : Cd P n (Exit.then (y.wp P Q) Q) x fr w) : Cd P n Q (x.seq y) fr w := .mk fun a ha => wp_seq (h.out a ha)
theorem Cd.region {id : Nat} {l : List Oper} (h : Seg P n l.toArray Q l fr w) : Cd P n Q (.region id l.toArray false) fr w := .mk fun a ha => wp_region_lit (h.out a ha)
theorem Cd.skip (h : At n Q .normal fr w) : Cd P n Q .skip fr w := .mk fun a ha => wp_skip (h.out a ha)
theorem Cd.exit {id : Nat} (h : At n Q (.exit id) fr w) : Cd P n Q (.exit id) fr w := .mk fun a ha => wp_exit (h.out a ha)
theorem Cd.ret (h : At n Q .ret fr w) : Cd P n Q .ret fr w := .mk fun a ha => wp_ret (h.out a ha)
theorem Cd.block {id : Nat} {c : Code} (h : Cd P n (Exit.inBlock id Q) c fr w) : Cd P n Q (.block id c) fr w := .mk fun a ha => wp_block (h.out a ha)
theorem Cd.cond {c : Operand} {x y : Code} {t : Bool} (hc : Fr.ev fr c = some (.bool t)) (ht : t = true → Cd P n Q x fr w) (hf : t = false → Cd P n Q y fr w) : Cd P n Q (.cond c x y) fr w := .mk fun a ha =>
  wp_cond_split (ha.ev hc) (fun h => (ht h).out a ha) (fun h => (hf h).out a ha)
theorem Cd.condp {c : Operand} {x y : Code} {p : Prop} [Decidable p] (hc : Fr.ev fr c = some (.bool (decide p))) (ht : p → Cd P n Q x fr w) (hf : ¬ p → Cd P n Q y fr w) : Cd P n Q (.cond c x y) fr w :=
  Cd.cond hc (fun h => ht (of_decide_eq_true h)) (fun h => hf (of_decide_eq_false h))
theorem Cd.condT {c : Operand} {x y : Code} (hc : Fr.ev fr c = some (.bool true)) (h : Cd P n Q x fr w) : Cd P n Q (.cond c x y) fr w := .mk fun a ha => wp_cond_true (ha.ev hc) (h.out a ha)
theorem Cd.condF {c : Operand} {x y : Code} (hc : Fr.ev fr c = some (.bool false)) (h : Cd P n Q y fr w) : Cd P n Q (.cond c x y) fr w := .mk fun a ha => wp_cond_false (ha.ev hc) (h.out a ha)

/-- A test that is not decided; behind it the slot's Bool is known. -/
theorem Cd.condkb {k : Nat} {x y : Code} {t : Bool} (hc : Fr.look fr k = some (.bool t)) (ht : t = true → Cd P n Q x ((k, .bool true) :: fr) w) (hf : t = false → Cd P n Q y ((k, .bool false) :: fr) w) : Cd P n Q (.cond (.tmp k) x y) fr w := .mk fun a ha => by
  cases t
  · exact (Cd.condF (P := P) (n := n) (fr := (k, .bool false) :: fr) (by simp [Fr.ev, Fr.look_cons_same]) (hf rfl)).out a (ha.again hc)
  · exact (Cd.condT (P := P) (n := n) (fr := (k, .bool true) :: fr) (by simp [Fr.ev, Fr.look_cons_same]) (ht rfl)).out a (ha.again hc)
theorem Cd.condk {k : Nat} {x y : Code} {p : Prop} [Decidable p] (hc : Fr.look fr k = some (.bool (decide p))) (ht : p → Cd P n Q x ((k, .bool true) :: fr) w) (hf : ¬ p → Cd P n Q y ((k, .bool false) :: fr) w) : Cd P n Q (.cond (.tmp k) x y) fr w :=
  Cd.condkb hc (fun h => ht (of_decide_eq_true h)) (fun h => hf (of_decide_eq_false h))

/-- A piece of code whose ways meet again: behind it, for some x, the frame is as F x tells and the world as R x does. -/
theorem Cd.cut {σ : Type} (F : σ → Fr) (R : σ → World → Prop) {x y : Code}
    (hx : Cd P n (Exit.then (fun a' w' => ∃ s, Fr.Of (F s) n a' ∧ R s w') Q) x fr w) (hy : ∀ s w', R s w' → Cd P n Q y (F s) w') : Cd P n Q (x.seq y) fr w := .mk fun a ha =>
  wp_seq (Code.wp_mono (fun e a' w' q => by
    cases e <;> first | exact q | (obtain ⟨s, h1, h2⟩ := q; exact (hy s w' h2).out a' h1)) (hx.out a ha))

/-- A loop. -/
theorem Cd.loop {σ : Type} (F : σ → Fr) (R : σ → World → Prop) (m : σ → Nat) (s₀ : σ) {c : Code} (hs : Fr.Sub (F s₀) fr) (hR : R s₀ w)
    (round : ∀ s w', R s w' → Cd P n (Exit.then (fun a₁ w₁ => ∃ s', Fr.Of (F s') n a₁ ∧ R s' w₁ ∧ m s' < m s) Q) c (F s) w') : Cd P n Q (.loop c) fr w := .mk fun a ha => by
  -- the measure of a state: the least m of what it may be
  have key : ∀ k s, m s = k → ∀ a w, Fr.Of (F s) n a → R s w → ∀ (b : Frame) (kk : List Item) (cs : List Frame),
      ∃ e a' w', Q e a' w' ∧ Arrives P (lone (b.at a (.code c :: .inLoop c :: kk)) cs w) b kk cs e a' w' := by
    intro k
    induction k using Nat.strongRecOn with
    | _ k ih =>
      intro s hk a w ha hR b kk cs
      obtain ⟨e, a₁, w₁, hq, harr⟩ := (round s w hR).out a ha b (.inLoop c :: kk) cs
      cases e with
      | normal =>
        obtain ⟨s', h1, h2, hlt⟩ := hq
        obtain ⟨e₂, a₂, w₂, hq₂, harr₂⟩ := ih (m s') (hk ▸ hlt) s' rfl a₁ w₁ h1 h2 b kk cs
        exact ⟨e₂, a₂, w₂, hq₂, .of_steps (Steps.trans harr (.one step_inLoop)) harr₂⟩
      | exit id => exact ⟨_, a₁, w₁, hq, .pass (x := .inLoop c) rfl (fun _ _ => .inl (by simp)) harr⟩
      | goto l => exact ⟨_, a₁, w₁, hq, .pass (x := .inLoop c) rfl (fun _ _ => .inl (by simp)) harr⟩
      | ret => exact ⟨_, a₁, w₁, hq, .pass (x := .inLoop c) rfl (fun _ _ => .inl (by simp)) harr⟩
      | panic ch => exact ⟨_, a₁, w₁, hq, .pass (x := .inLoop c) rfl (fun _ _ => .inl (by simp)) harr⟩
      | outgrown => exact ⟨_, a₁, w₁, hq, .pass (x := .inLoop c) rfl (fun _ _ => .inl (by simp)) harr⟩
  intro b k cs
  obtain ⟨e, a', w', hq, harr⟩ := key _ s₀ rfl a w (ha.sub hs) hR b k cs
  exact ⟨e, a', w', hq, .of_steps (.one step_loop) harr⟩

/-! ### Ends -/
theorem At.then_ {y : Code} (h : Cd P n Q y fr w) : At n (Exit.then (y.wp P Q) Q) .normal fr w := .mk fun a ha => h.out a ha
theorem At.cut {σ : Type} {F : σ → Fr} {R : σ → World → Prop} (s : σ) (hs : Fr.Sub (F s) fr) (hR : R s w) : At n (Exit.then (fun a' w' => ∃ s, Fr.Of (F s) n a' ∧ R s w') Q) .normal fr w := .mk fun _ ha => ⟨s, ha.sub hs, hR⟩
theorem At.round {σ : Type} {F : σ → Fr} {R : σ → World → Prop} {m : σ → Nat} {k : Nat} (s : σ) (hs : Fr.Sub (F s) fr) (hR : R s w) (hm : m s < k) :
    At n (Exit.then (fun a' w' => ∃ s, Fr.Of (F s) n a' ∧ R s w' ∧ m s < k) Q) .normal fr w := .mk fun _ ha => ⟨s, ha.sub hs, hR, hm⟩
theorem At.then_exit {id : Nat} {K : Act → World → Prop} (h : At n Q (.exit id) fr w) : At n (Exit.then K Q) (.exit id) fr w := ⟨h.out⟩
theorem At.then_ret {K : Act → World → Prop} (h : At n Q .ret fr w) : At n (Exit.then K Q) .ret fr w := ⟨h.out⟩
theorem At.blk {id : Nat} (h : At n Q .normal fr w) : At n (Exit.inBlock id Q) .normal fr w := ⟨h.out⟩
theorem At.blk_ret {id : Nat} (h : At n Q .ret fr w) : At n (Exit.inBlock id Q) .ret fr w := ⟨h.out⟩
theorem At.blk_same {id : Nat} (h : At n Q .normal fr w) : At n (Exit.inBlock id Q) (.exit id) fr w := .mk fun a ha => by
  simp only [Exit.inBlock, if_true]; exact h.out a ha
theorem At.blk_other {id id' : Nat} (hne : Nat.beq id' id = false) (h : At n Q (.exit id') fr w) : At n (Exit.inBlock id Q) (.exit id') fr w := .mk fun a ha => by
  have : id' ≠ id := fun e => by subst e; simp at hne
  simp only [Exit.inBlock, if_neg this]; exact h.out a ha

/-! ### Functions -/
/-- The call returns, and what it returns, and the world then, are as R tells. -/
def Ret (P : Program) (f : FuncId) (args : Array Value) (w : World) (R : Value → World → Prop) : Prop := Calls P f args w fun e w' => ∃ v, e = .returned v ∧ R v w'
theorem Ret.mono {f : FuncId} {args : Array Value} {R R' : Value → World → Prop} (h : Ret P f args w R) (hr : ∀ v w', R v w' → R' v w') : Ret P f args w R' :=
  Calls.mono h fun _ _ ⟨v, he, hv⟩ => ⟨v, he, hr _ _ hv⟩

/-- What a function's end is asked. -/
def Done (P : Program) (fn : Func) (R : Value → World → Prop) : Exit → Act → World → Prop := bodyPost P fn fun e w' => ∃ v, e = .returned v ∧ R v w'

def frArgs : Nat → List Value → Fr
  | _, [] => []
  | k, v :: r => (k, v) :: frArgs (k + 1) r

theorem frArgs_mem : ∀ (l : List Value) (k : Nat) (p : Nat × Value), p ∈ frArgs k l → k ≤ p.1 ∧ l[p.1 - k]? = some p.2
  | v :: r, k, p, h => by
    rcases List.mem_cons.1 h with rfl | h
    · simp
    · obtain ⟨h1, h2⟩ := frArgs_mem r (k + 1) p h
      refine ⟨by omega, ?_⟩
      rw [show p.1 - k = (p.1 - (k + 1)) + 1 by omega]
      simpa using h2

theorem Ret.body {m : Nat} {f : FuncId} {fn : Func} {c : Code} {args : List Value} {R : Value → World → Prop} (hf : P.funcs[f]? = some fn) (hb : fn.body = some c) (hn : fn.ntmps = m) (hle : Nat.ble args.length m = true)
    (h : Cd P ⟨m, []⟩ (Done P fn R) c (frArgs 0 args) w) : Ret P f args.toArray w R := by
  refine calls_of_wp hf hb (h.out _ ⟨rfl, ?_, ?_⟩)
  · have := Nat.le_of_ble_eq_true hle
    simp [hn]; omega
  · intro k v hk
    obtain ⟨_, h2⟩ := frArgs_mem args 0 (k, v) (Fr.mem_of_look hk)
    left
    have hlt : k < args.length := by
      rcases Nat.lt_or_ge k args.length with h' | h'
      · exact h'
      · simp [List.getElem?_eq_none h'] at h2
    rw [Array.getElem?_append_left (by simpa using hlt)]
    simpa using h2

/-- The results, out of the slots and out of memory. -/
inductive ResIs (P : Program) (fr : Fr) (w : World) : List ResultVar → List Value → Prop
  | nil : ResIs P fr w [] []
  | tmp {t : Tmp} {r : List ResultVar} {v : Value} {vs : List Value} (h : Fr.look fr t = some v) (hr : ResIs P fr w r vs) : ResIs P fr w (.tmp t :: r) (v :: vs)
  | cell {p : Tmp} {T : TypeId} {r : List ResultVar} {a : Addr} {v : Value} {vs : List Value} (h : Fr.look fr p = some (.pointer (some a))) (hl : (loadVar T a).run P w = .ok v w) (hr : ResIs P fr w r vs) : ResIs P fr w (.cell p T :: r) (v :: vs)
def resOne : List Value → Value
  | [v] => v
  | vs => .tuple vs.toArray

theorem ResIs.run {a : Act} (ha : Fr.Of fr n a) (g : ResultVar → Sem Value) (g1 : ∀ t, g (.tmp t) = pure (a.tmps.getD t undef)) (g2 : ∀ p T, g (.cell p T) = (do loadVar T (← asAddr (a.tmps.getD p undef))))
    {rs : List ResultVar} {vs : List Value} (h : ResIs P fr w rs vs) : (rs.mapM (m := Sem) g).run P w = .ok vs w := by
  induction h with
  | nil => simp
  | tmp h hr ih =>
    rw [List.mapM_cons]
    simp only [Sem.run_bind, g1, ih, Result.andThen_ok, Sem.run_pure, ha.getD h]
  | cell h hl hr ih =>
    rw [List.mapM_cons]
    simp only [Sem.run_bind, g2, ih, Result.andThen_ok, Sem.run_pure, ha.getD h, asAddr, hl]

theorem results_run {fn : Func} {rs : List ResultVar} (hr : fn.results = rs.toArray) {a : Act} (ha : Fr.Of fr n a) {vs : List Value} (h : ResIs P fr w rs vs) :
    (results fn a.tmps).run P w = .ok (resOne vs) w := by
  unfold results
  rw [hr]
  simp only [List.mapM_toArray]
  rw [Sem.run_bind, Sem.run_map, h.run ha _ (fun _ => rfl) (fun _ _ => rfl)]
  simp only [Result.andThen_ok, Sem.run_pure]
  match vs with
  | [] => rfl
  | [v] => rfl
  | v :: u :: r => simp [resOne]

theorem At.ret {m : Nat} {fn : Func} {R : Value → World → Prop} {rs : List ResultVar} (hr : fn.results = rs.toArray) {vs : List Value} (h : ResIs P fr w rs vs) (hR : R (resOne vs) w) : At ⟨m, []⟩ (Done P fn R) .ret fr w :=
  .mk fun _ ha => ⟨ha.defers, _, results_run hr ha h, _, rfl, hR⟩
theorem At.fin {m : Nat} {fn : Func} {R : Value → World → Prop} {rs : List ResultVar} (hr : fn.results = rs.toArray) {vs : List Value} (h : ResIs P fr w rs vs) (hR : R (resOne vs) w) : At ⟨m, []⟩ (Done P fn R) .normal fr w :=
  .mk fun _ ha => ⟨ha.defers, _, results_run hr ha h, _, rfl, hR⟩

/-! ### Calls -/
/-- The function is one that the walk may call. -/
def Own (P : Program) (f : FuncId) : Prop := ∀ args w, (callFunc f args).run P w = .ok (.enter f args) w
theorem Own.run {f : FuncId} (h : Own P f) (args : Array Value) (w : World) : (callFunc f args).run P w = .ok (.enter f args) w := h args w

theorem Seg.call {d : Nat} {f : FuncId} {xs : List Operand} {ats : Array TypeId} {T : TypeId} {pos : String} {aft : Array Edge} {g : Option (Nat × Bool)} {rest : List Oper} {vs : List Value} {R : Value → World → Prop}
    (hg : gd ops fr g = some true) (hd : Nat.blt d n.n = true) (hf : Own P f) (hx : Fr.evs fr xs = some vs) (hc : Ret P f vs.toArray w R)
    (k : ∀ v w', R v w' → Seg P n ops Q rest ((d, v) :: fr) w') :
    Seg P n ops Q (⟨some d, .call ⟨.value (.func f), xs.toArray, ats⟩, T, pos, aft, g⟩ :: rest) fr w := .mk fun a ha => by
  refine wpList_step fun K hK => ?_
  rw [if_pos (gd_wanted ha (o := ⟨some d, .call ⟨.value (.func f), xs.toArray, ats⟩, T, pos, aft, g⟩) hg)]
  unfold Oper.wp
  have e : execOp a.eval ⟨some d, .call ⟨.value (.func f), xs.toArray, ats⟩, T, pos, aft, g⟩ = callFunc f (#[] ++ xs.toArray.map a.eval ++ #[]) := rfl
  rw [e, hf.run]
  have e2 : (#[] ++ xs.toArray.map a.eval ++ #[] : Array Value) = vs.toArray := by simp [ha.evs hx]
  rw [e2]
  exact Calls.mono hc fun e' w' ⟨v, he, hv⟩ => by
    subst he
    exact hK _ _ ((k v w' hv).out _ (ha.put hd _))

theorem Seg.call0 {f : FuncId} {xs : List Operand} {ats : Array TypeId} {T : TypeId} {pos : String} {aft : Array Edge} {g : Option (Nat × Bool)} {rest : List Oper} {vs : List Value} {R : Value → World → Prop}
    (hg : gd ops fr g = some true) (hf : Own P f) (hx : Fr.evs fr xs = some vs) (hc : Ret P f vs.toArray w R)
    (k : ∀ v w', R v w' → Seg P n ops Q rest fr w') :
    Seg P n ops Q (⟨none, .call ⟨.value (.func f), xs.toArray, ats⟩, T, pos, aft, g⟩ :: rest) fr w := .mk fun a ha => by
  refine wpList_step fun K hK => ?_
  rw [if_pos (gd_wanted ha (o := ⟨none, .call ⟨.value (.func f), xs.toArray, ats⟩, T, pos, aft, g⟩) hg)]
  unfold Oper.wp
  have e : execOp a.eval ⟨none, .call ⟨.value (.func f), xs.toArray, ats⟩, T, pos, aft, g⟩ = callFunc f (#[] ++ xs.toArray.map a.eval ++ #[]) := rfl
  rw [e, hf.run]
  have e2 : (#[] ++ xs.toArray.map a.eval ++ #[] : Array Value) = vs.toArray := by simp [ha.evs hx]
  rw [e2]
  exact Calls.mono hc fun e' w' ⟨v, he, hv⟩ => by
    subst he
    exact hK _ _ ((k v w' hv).out _ ha)

/-- A call of a function value. -/
theorem Seg.callv {d : Nat} {x : Operand} {f : FuncId} {first cap : List Value} {xs : List Operand} {ats : Array TypeId} {T : TypeId} {pos : String} {aft : Array Edge} {g : Option (Nat × Bool)} {rest : List Oper} {vs : List Value} {R : Value → World → Prop}
    (hg : gd ops fr g = some true) (hd : Nat.blt d n.n = true) (hv : Fr.ev fr x = some (.func (.func f) first.toArray cap.toArray)) (hf : Own P f) (hx : Fr.evs fr xs = some vs) (hc : Ret P f (first ++ vs ++ cap).toArray w R)
    (k : ∀ v w', R v w' → Seg P n ops Q rest ((d, v) :: fr) w') :
    Seg P n ops Q (⟨some d, .call ⟨.value x, xs.toArray, ats⟩, T, pos, aft, g⟩ :: rest) fr w := .mk fun a ha => by
  refine wpList_step fun K hK => ?_
  rw [if_pos (gd_wanted ha (o := ⟨some d, .call ⟨.value x, xs.toArray, ats⟩, T, pos, aft, g⟩) hg)]
  unfold Oper.wp
  have e : (execOp a.eval ⟨some d, .call ⟨.value x, xs.toArray, ats⟩, T, pos, aft, g⟩).run P w = .ok (.enter f (first ++ vs ++ cap).toArray) w := by
    simp [execOp, resolve, ha.ev hv, Deferred.ofValue, invoke, hf.run, ha.evs hx]
  rw [e]
  exact Calls.mono hc fun e' w' ⟨v, he, hv⟩ => by
    subst he
    exact hK _ _ ((k v w' hv).out _ (ha.put hd _))

end
end Go.Proofs.YtahpiaaffeiadaaGreat
