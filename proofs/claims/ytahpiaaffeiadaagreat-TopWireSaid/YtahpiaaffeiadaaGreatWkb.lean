/- Walk rules, part two: what single operations yield. -/
import Derived.Test.YtahpiaaffeiadaaGreatWka
import Derived.Deep.Slices
namespace Go.Proofs.YtahpiaaffeiadaaGreat
open Go Go.RowKit

/-! ### Tables of types and functions -/
def lookT {α : Type} : List (Nat × α) → Nat → Option α
  | [], _ => none
  | (k, v) :: r, n => match Nat.beq n k with
    | true => some v
    | false => lookT r n
theorem lookT_mem {α : Type} : ∀ {l : List (Nat × α)} {k : Nat} {v : α}, lookT l k = some v → (k, v) ∈ l
  | (d, u) :: r, k, v, h => by
    unfold lookT at h
    split at h
    · rename_i hb
      cases h
      rw [Nat.eq_of_beq_eq_true hb]
      exact List.mem_cons_self
    · exact List.mem_cons_of_mem _ (lookT_mem h)

/-- What the walk asks of a type: is it a struct or an array, its cells, its bytes, its zero; a string? an integer's kind; a slice's or an array's element; a struct's fields (place, cells). -/
structure TyR where
  agg : Bool := false
  size : Nat := 1
  bytes : Nat
  zero : Value
  isStr : Bool := false
  isBool : Bool := false
  kind : Option IntKind := none
  ptr : Option Nat := none
  fnc : Bool := false
  sl : Option (Nat × Nat) := none
  ar : Option (Nat × Nat × Nat) := none
  flds : List (Nat × Nat) := []

def aggD : TypeDesc → Bool
  | .struct _ | .array _ _ => true
  | _ => false
def FldsOk (P : Program) : List Field → List (Nat × Nat) → Prop
  | [], [] => True
  | f :: fs, (o, s) :: r => (f.offset = o ∧ ∀ w, (sizeOf f.type).run P w = .ok s w) ∧ FldsOk P fs r
  | _, _ => False
structure RowOk (P : Program) (T : TypeId) (d : TypeDesc) (i : TypeInfo) (r : TyR) : Prop where
  und : P.underlying T = some d
  inf : ∀ w, (typeInfo T).run P w = .ok i w
  agg : aggD d = r.agg
  size : i.size = r.size
  bytes : i.bytes = r.bytes
  zero : i.zero = some r.zero
  isStr : r.isStr = true → d = .string
  isBool : r.isBool = true → d = .bool
  ptr : ∀ e, r.ptr = some e → d = .pointer e
  fnc : r.fnc = true → ∃ a b c, d = .func a b c
  kind : ∀ k, r.kind = some k → d = .int k
  sl : ∀ e s, r.sl = some (e, s) → d = .slice e ∧ ∀ w, (sizeOf e).run P w = .ok s w
  ar : ∀ m e s, r.ar = some (m, e, s) → d = .array m e ∧ ∀ w, (sizeOf e).run P w = .ok s w
  flds : r.flds = [] ∨ ∃ fs, d = .struct fs ∧ FldsOk P fs.toList r.flds
def TabOk (P : Program) (l : List (Nat × TyR)) : Prop := ∀ p ∈ l, ∃ d i, RowOk P p.1 d i p.2
theorem TabOk.nil {P : Program} : TabOk P [] := fun _ h => by cases h
theorem TabOk.cons {P : Program} {T : Nat} {d : TypeDesc} {i : TypeInfo} {r : TyR} {l : List (Nat × TyR)} (h1 : RowOk P T d i r) (h : TabOk P l) : TabOk P ((T, r) :: l) := fun p hp => by
  rcases List.mem_cons.1 hp with rfl | hp
  · exact ⟨d, i, h1⟩
  · exact h p hp
def FnsOk (P : Program) (l : List Nat) : Prop := ∀ f ∈ l, ∀ args w, (callFunc f args).run P w = .ok (.enter f args) w
theorem FnsOk.nil {P : Program} : FnsOk P [] := fun _ h => by cases h
theorem FnsOk.cons {P : Program} {f : Nat} {l : List Nat} (h1 : ∀ args w, (callFunc f args).run P w = .ok (.enter f args) w) (h : FnsOk P l) : FnsOk P (f :: l) := fun p hp => by
  rcases List.mem_cons.1 hp with rfl | hp
  · exact h1
  · exact h p hp

class Tys (P : Program) where
  tab : List (Nat × TyR)
  fns : List Nat
  tab_ok : TabOk P tab
  fns_ok : FnsOk P fns

def hasN : List Nat → Nat → Bool
  | [], _ => false
  | k :: r, n => match Nat.beq n k with
    | true => true
    | false => hasN r n
theorem hasN_mem : ∀ {l : List Nat} {k : Nat}, hasN l k = true → k ∈ l
  | d :: r, k, h => by
    unfold hasN at h
    split at h
    · rename_i hb
      rw [Nat.eq_of_beq_eq_true hb]
      exact List.mem_cons_self
    · exact List.mem_cons_of_mem _ (hasN_mem h)

section
variable (P : Program) [Tys P]
def tyR (T : TypeId) : Option TyR := lookT (Tys.tab P) T
def isFn (f : FuncId) : Bool := hasN (Tys.fns P) f
def szOf (T : TypeId) : Option Nat := match tyR P T with | some r => some r.size | none => none
def byOf (T : TypeId) : Option Nat := match tyR P T with | some r => some r.bytes | none => none
def aggOf (T : TypeId) : Option Bool := match tyR P T with | some r => some r.agg | none => none
def zerOf (T : TypeId) : Option Value := match tyR P T with | some r => some r.zero | none => none
def strOf (T : TypeId) : Option Bool := match tyR P T with | some r => some r.isStr | none => none
def boolOf (T : TypeId) : Option Bool := match tyR P T with | some r => some r.isBool | none => none
def ptrOf (T : TypeId) : Option Nat := match tyR P T with | some r => r.ptr | none => none
def fncOf (T : TypeId) : Option Bool := match tyR P T with | some r => some r.fnc | none => none
def kindOf (T : TypeId) : Option IntKind := match tyR P T with | some r => r.kind | none => none
def fieldOf (S : TypeId) (i : Nat) : Option (Nat × Nat) := match tyR P S with | some r => r.flds[i]? | none => none
def slOf (T : TypeId) : Option (Nat × Nat) := match tyR P T with | some r => r.sl | none => none
def arOf (T : TypeId) : Option (Nat × Nat × Nat) := match tyR P T with | some r => r.ar | none => none
end

section
variable {P : Program} [Tys P] {n : Fm} {fr : Fr} {w w' : World} {T : TypeId}

theorem row_of {r : TyR} (h : tyR P T = some r) : ∃ d i, RowOk P T d i r := Tys.tab_ok _ (lookT_mem h)
theorem run_size {k : Nat} (h : szOf P T = some k) (w : World) : (sizeOf T).run P w = .ok k w := by
  unfold szOf at h
  split at h
  · rename_i r hr
    obtain ⟨d, i, ho⟩ := row_of hr
    cases h
    simp [sizeOf, ho.inf, ho.size]
  · cases h
theorem run_isAgg {b : Bool} (h : aggOf P T = some b) (w : World) : (isAgg T).run P w = .ok b w := by
  unfold aggOf at h
  split at h
  · rename_i r hr
    obtain ⟨d, i, ho⟩ := row_of hr
    cases h
    unfold isAgg
    rw [Sem.run_bind, run_underlying ho.und, ← ho.agg]
    cases d <;> simp [aggD]
  · cases h
theorem run_zero {z : Value} (h : zerOf P T = some z) (w : World) : (zeroValue T).run P w = .ok z w := by
  unfold zerOf at h
  split at h
  · rename_i r hr
    obtain ⟨d, i, ho⟩ := row_of hr
    cases h
    simp [zeroValue, ho.inf, ho.zero]
  · cases h
theorem run_inf {b s : Nat} (hb : byOf P T = some b) (hs : szOf P T = some s) : ∃ i, (∀ w, (typeInfo T).run P w = .ok i w) ∧ i.bytes = b ∧ i.size = s := by
  unfold byOf at hb
  unfold szOf at hs
  split at hb
  · rename_i r hr
    obtain ⟨d, i, ho⟩ := row_of hr
    cases hb
    rw [hr] at hs
    cases hs
    exact ⟨i, ho.inf, ho.bytes, ho.size⟩
  · cases hb
theorem und_str (h : strOf P T = some true) : P.underlying T = some .string := by
  unfold strOf at h
  split at h
  · rename_i r hr
    obtain ⟨d, i, ho⟩ := row_of hr
    simp only [Option.some.injEq] at h
    rw [ho.und, ho.isStr h]
  · cases h
theorem und_bool (h : boolOf P T = some true) : P.underlying T = some .bool := by
  unfold boolOf at h
  split at h
  · rename_i r hr
    obtain ⟨d, i, ho⟩ := row_of hr
    simp only [Option.some.injEq] at h
    rw [ho.und, ho.isBool h]
  · cases h
theorem und_ptr {e : Nat} (h : ptrOf P T = some e) : P.underlying T = some (.pointer e) := by
  unfold ptrOf at h
  split at h
  · rename_i r hr
    obtain ⟨d, i, ho⟩ := row_of hr
    rw [ho.und, ho.ptr _ h]
  · cases h
theorem und_fnc (h : fncOf P T = some true) : ∃ a b c, P.underlying T = some (.func a b c) := by
  unfold fncOf at h
  split at h
  · rename_i r hr
    obtain ⟨d, i, ho⟩ := row_of hr
    simp only [Option.some.injEq] at h
    obtain ⟨a, b, c, hd⟩ := ho.fnc h
    exact ⟨a, b, c, by rw [ho.und, hd]⟩
  · cases h
theorem und_kind {k : IntKind} (h : kindOf P T = some k) : P.underlying T = some (.int k) := by
  unfold kindOf at h
  split at h
  · rename_i r hr
    obtain ⟨d, i, ho⟩ := row_of hr
    rw [ho.und, ho.kind _ h]
  · cases h
theorem und_sl {e s : Nat} (h : slOf P T = some (e, s)) : P.underlying T = some (.slice e) ∧ ∀ w, (sizeOf e).run P w = .ok s w := by
  unfold slOf at h
  split at h
  · rename_i r hr
    obtain ⟨d, i, ho⟩ := row_of hr
    obtain ⟨h1, h2⟩ := ho.sl _ _ h
    exact ⟨by rw [ho.und, h1], h2⟩
  · cases h
theorem und_ar {m e s : Nat} (h : arOf P T = some (m, e, s)) : P.underlying T = some (.array m e) ∧ ∀ w, (sizeOf e).run P w = .ok s w := by
  unfold arOf at h
  split at h
  · rename_i r hr
    obtain ⟨d, i, ho⟩ := row_of hr
    obtain ⟨h1, h2⟩ := ho.ar _ _ _ h
    exact ⟨by rw [ho.und, h1], h2⟩
  · cases h
omit [Tys P] in
theorem FldsOk.get {fs : List Field} {r : List (Nat × Nat)} (h : FldsOk P fs r) : ∀ {i o s : Nat}, r[i]? = some (o, s) → ∃ f, fs[i]? = some f ∧ f.offset = o ∧ ∀ w, (sizeOf f.type).run P w = .ok s w := by
  induction fs generalizing r with
  | nil => intro i o s hi; cases r <;> simp_all [FldsOk]
  | cons f fs ih =>
    intro i o s hi
    cases r with
    | nil => simp at hi
    | cons p r =>
      obtain ⟨⟨h1, h2⟩, h3⟩ := h
      cases i with
      | zero => simp at hi; subst hi; exact ⟨f, rfl, h1, h2⟩
      | succ i => simpa using ih h3 (by simpa using hi)
theorem und_fld {i o s : Nat} (h : fieldOf P T i = some (o, s)) : ∃ fs f, P.underlying T = some (.struct fs) ∧ fs[i]? = some f ∧ f.offset = o ∧ ∀ w, (sizeOf f.type).run P w = .ok s w := by
  unfold fieldOf at h
  split at h
  · rename_i r hr
    obtain ⟨d, inf, ho⟩ := row_of hr
    rcases ho.flds with h0 | ⟨fs, hd, hf⟩
    · rw [h0] at h; simp at h
    · obtain ⟨f, h1, h2, h3⟩ := hf.get h
      exact ⟨fs, f, by rw [ho.und, hd], by simpa using h1, h2, h3⟩
  · cases h
theorem own_of {f : FuncId} (h : isFn P f = true) : Own P f := fun args w => Tys.fns_ok _ (hasN_mem h) args w
theorem run_call {f : FuncId} (h : isFn P f = true) (args : Array Value) (w : World) : (callFunc f args).run P w = .ok (.enter f args) w := Tys.fns_ok _ (hasN_mem h) args w

end

section
variable {P : Program} {n : Fm} {fr : Fr} {w w' : World} {T : TypeId}
/-! ### Operations -/
theorem Yd.val {op : Op} {v : Value} (h : ∀ a, Fr.Of fr n a → ∀ d pos aft g, (execOp a.eval ⟨d, op, T, pos, aft, g⟩).run P w = .ok (.value v) w') : Yd P n op T fr w v w' :=
  .mk h
theorem Yd.move {x : Operand} {v : Value} (hx : Fr.ev fr x = some v) : Yd P n (.move x) T fr w v w := .val fun a ha _ _ _ _ => by simp [execOp, ha.ev hx]
theorem Yd.assign {x : Operand} {v : Value} (hx : Fr.ev fr x = some v) : Yd P n (.assign x) T fr w v w := .val fun a ha _ _ _ _ => by simp [execOp, ha.ev hx]
theorem Yd.pickT {c x y : Operand} {v : Value} (hc : Fr.ev fr c = some (.bool true)) (hx : Fr.ev fr x = some v) : Yd P n (.pick c x y) T fr w v w :=
  .val fun a ha _ _ _ _ => by simp [execOp, ha.ev hc, ha.ev hx, asBool]
theorem Yd.pickF {c x y : Operand} {v : Value} (hc : Fr.ev fr c = some (.bool false)) (hy : Fr.ev fr y = some v) : Yd P n (.pick c x y) T fr w v w :=
  .val fun a ha _ _ _ _ => by simp [execOp, ha.ev hc, ha.ev hy, asBool]
theorem Yd.nilCheckP {x : Operand} {p : Addr} (hx : Fr.ev fr x = some (.pointer (some p))) : Yd P n (.nilCheck x) T fr w (.pointer (some p)) w :=
  .val fun a ha _ _ _ _ => by simp [execOp, ha.ev hx]
theorem Yd.nilCheckF {x : Operand} {f : FuncId} {first cap : Array Value} (hx : Fr.ev fr x = some (.func (.func f) first cap)) : Yd P n (.nilCheck x) T fr w (.func (.func f) first cap) w :=
  .val fun a ha _ _ _ _ => by simp [execOp, ha.ev hx]
theorem Yd.not {x : Operand} {b : Bool} {U : TypeId} (hx : Fr.ev fr x = some (.bool b)) : Yd P n (.unOp .not U x) T fr w (.bool (!b)) w :=
  .val fun a ha _ _ _ _ => by simp [execOp, ha.ev hx, Op.unary]
theorem Yd.notp {x : Operand} {p : Prop} [Decidable p] {U : TypeId} (hx : Fr.ev fr x = some (.bool (decide p))) : Yd P n (.unOp .not U x) T fr w (.bool (decide (¬ p))) w :=
  .val fun a ha _ _ _ _ => by simp [execOp, ha.ev hx, Op.unary]

theorem eqGuard_int {op : BinOp} {U : TypeId} {x y : Operand} {k k' : IntKind} {i j : Int} : (eqGuard op U x y (.int k i) (.int k' j)).run P w = .ok () w := by
  cases op <;> simp [eqGuard]
theorem eqGuard_str {op : BinOp} {U : TypeId} {x y : Operand} {s t : ByteArray} : (eqGuard op U x y (.string s) (.string t)).run P w = .ok () w := by
  cases op <;> simp [eqGuard]
theorem eqGuard_bool {op : BinOp} {U : TypeId} {x y : Operand} {s t : Bool} : (eqGuard op U x y (.bool s) (.bool t)).run P w = .ok () w := by
  cases op <;> simp [eqGuard]

section
variable {x y : Operand} {k : IntKind} {i j : Int} {U U' : TypeId}
theorem Yd.bin {op : BinOp} {vx vy v : Value} (hx : Fr.ev fr x = some vx) (hy : Fr.ev fr y = some vy) (hg : (eqGuard op U x y vx vy).run P w = .ok () w) (hb : (binOp op U vx vy).run P w = .ok v w) : Yd P n (.binOp op U x y U') T fr w v w :=
  .val fun a ha _ _ _ _ => by simp [execOp, ha.ev hx, ha.ev hy, hg, hb]
theorem Yd.eql (hx : Fr.ev fr x = some (.int k i)) (hy : Fr.ev fr y = some (.int k j)) : Yd P n (.binOp .eql U x y U') T fr w (.bool (decide (i = j))) w :=
  .bin hx hy eqGuard_int (by simp [binOp, Op.intCmp]; rfl)
theorem Yd.neq (hx : Fr.ev fr x = some (.int k i)) (hy : Fr.ev fr y = some (.int k j)) : Yd P n (.binOp .neq U x y U') T fr w (.bool (decide (i ≠ j))) w :=
  .bin hx hy eqGuard_int (by simp [binOp, Op.intCmp]; rfl)
theorem Yd.lss (hx : Fr.ev fr x = some (.int k i)) (hy : Fr.ev fr y = some (.int k j)) : Yd P n (.binOp .lss U x y U') T fr w (.bool (decide (i < j))) w :=
  .bin hx hy eqGuard_int (by simp [binOp, Op.intCmp])
theorem Yd.leq (hx : Fr.ev fr x = some (.int k i)) (hy : Fr.ev fr y = some (.int k j)) : Yd P n (.binOp .leq U x y U') T fr w (.bool (decide (i ≤ j))) w :=
  .bin hx hy eqGuard_int (by simp [binOp, Op.intCmp])
theorem Yd.gtr (hx : Fr.ev fr x = some (.int k i)) (hy : Fr.ev fr y = some (.int k j)) : Yd P n (.binOp .gtr U x y U') T fr w (.bool (decide (j < i))) w :=
  .bin hx hy eqGuard_int (by simp [binOp, Op.intCmp])
theorem Yd.geq (hx : Fr.ev fr x = some (.int k i)) (hy : Fr.ev fr y = some (.int k j)) : Yd P n (.binOp .geq U x y U') T fr w (.bool (decide (j ≤ i))) w :=
  .bin hx hy eqGuard_int (by simp [binOp, Op.intCmp])
theorem Yd.add (hx : Fr.ev fr x = some (.int k i)) (hy : Fr.ev fr y = some (.int k j)) : Yd P n (.binOp .add U x y U') T fr w (.int k (k.wrap (i + j))) w :=
  .bin hx hy eqGuard_int (by simp [binOp, Op.intArith])
theorem Yd.sub (hx : Fr.ev fr x = some (.int k i)) (hy : Fr.ev fr y = some (.int k j)) : Yd P n (.binOp .sub U x y U') T fr w (.int k (k.wrap (i - j))) w :=
  .bin hx hy eqGuard_int (by simp [binOp, Op.intArith])
theorem Yd.mul (hx : Fr.ev fr x = some (.int k i)) (hy : Fr.ev fr y = some (.int k j)) : Yd P n (.binOp .mul U x y U') T fr w (.int k (k.wrap (i * j))) w :=
  .bin hx hy eqGuard_int (by simp [binOp, Op.intArith])
theorem Yd.addI (hx : Fr.ev fr x = some (.int .i64 i)) (hy : Fr.ev fr y = some (.int .i64 j)) (h : -9223372036854775808 ≤ i + j ∧ i + j ≤ 9223372036854775807) : Yd P n (.binOp .add U x y U') T fr w (.int .i64 (i + j)) w := by
  have := Yd.add (P := P) (n := n) (w := w) (T := T) (U := U) (U' := U') hx hy
  rwa [IntWalk.i64_in _ h] at this
theorem Yd.subI (hx : Fr.ev fr x = some (.int .i64 i)) (hy : Fr.ev fr y = some (.int .i64 j)) (h : -9223372036854775808 ≤ i - j ∧ i - j ≤ 9223372036854775807) : Yd P n (.binOp .sub U x y U') T fr w (.int .i64 (i - j)) w := by
  have := Yd.sub (P := P) (n := n) (w := w) (T := T) (U := U) (U' := U') hx hy
  rwa [IntWalk.i64_in _ h] at this
end
end

/-- The integer i is the number k. -/
def NatOf (i : Int) (k : Nat) : Prop := i = (k : Int)
theorem NatOf.cast (k : Nat) : NatOf (k : Int) k := rfl
theorem NatOf.add {a b : Int} {x y : Nat} (h : NatOf a x) (k : NatOf b y) : NatOf (a + b) (x + y) := by unfold NatOf at *; omega
theorem NatOf.sub {a b : Int} {x y : Nat} (h : NatOf a x) (k : NatOf b y) (hle : y ≤ x) : NatOf (a - b) (x - y) := by unfold NatOf at *; omega
theorem NatOf.self {a : Int} (h : 0 ≤ a) : NatOf a a.toNat := by unfold NatOf; omega

/-! ### Memory -/
section
variable {P : Program} [Tys P] {n : Fm} {fr : Fr} {w w' : World} {T : TypeId}

/-- From p on there lie these cells. -/
def Row (w : World) (p : Addr) (cs : List Value) : Prop := ∀ j v, cs[j]? = some v → w.cell? (p.add j) = some v

theorem Addr.add0 (p : Addr) : p.add 0 = p := by simp [Addr.add]
theorem Row.head {p : Addr} {v : Value} {cs : List Value} (h : Row w p (v :: cs)) : w.cell? p = some v := by
  have := h 0 v rfl
  rwa [Addr.add0] at this

theorem run_loadVar1 (hT : aggOf P T = some false) {p : Addr} {v : Value} (hc : w.cell? p = some v) : (loadVar T p).run P w = .ok v w := by
  unfold loadVar
  rw [Sem.run_bind, run_isAgg hT]
  simp [hc]
theorem run_loadVarN (hT : aggOf P T = some true) {p : Addr} {cs : List Value} (hs : szOf P T = some cs.length) (hc : Row w p cs) : (loadVar T p).run P w = .ok (.agg cs.toArray) w := by
  unfold loadVar
  rw [Sem.run_bind, run_isAgg hT]
  simp only [Result.andThen_ok, if_true]
  rw [Sem.run_bind, run_size hs]
  simp only [Result.andThen_ok]
  rw [Sem.run_bind, run_loadCells_list w p cs hc]
  simp

theorem Yd.load1 {x : Operand} {p : Addr} {v : Value} {U : TypeId} (hT : aggOf P U = some false) (hx : Fr.ev fr x = some (.pointer (some p))) (hc : w.cell? p = some v) : Yd P n (.load U x) T fr w v w :=
  .val fun a ha _ _ _ _ => by simp [execOp, Instr.loadAt, Instr.sureAddr, ha.ev hx, run_loadVar1 hT hc]
theorem Yd.loadN {x : Operand} {p : Addr} {cs : List Value} {U : TypeId} (hT : aggOf P U = some true) (hs : szOf P U = some cs.length) (hx : Fr.ev fr x = some (.pointer (some p))) (hc : Row w p cs) : Yd P n (.load U x) T fr w (.agg cs.toArray) w :=
  .val fun a ha _ _ _ _ => by simp [execOp, Instr.loadAt, Instr.sureAddr, ha.ev hx, run_loadVarN hT hs hc]

omit [Tys P] in
theorem Yd.box {x : Operand} {v : Value} {e : TypeId} (hx : Fr.ev fr x = some v) : Yd P n (.box e x) T fr w (.pointer (some ⟨w.heap.size, 0, none⟩)) (w.alloc (.cells v.cells e)) :=
  .val fun a ha _ _ _ _ => by simp [execOp, Instr.box, newVar, newRow, ha.ev hx]
theorem Yd.alloc {e : TypeId} {z : Value} (hz : zerOf P e = some z) : Yd P n (.alloc e) T fr w (.pointer (some ⟨w.heap.size, 0, none⟩)) (w.alloc (.cells z.cells e)) :=
  .val fun a ha _ _ _ _ => by simp [execOp, Instr.alloc, newVar, newRow, run_zero hz]

theorem Yd.fieldAddr {x : Operand} {p : Addr} {S : TypeId} {i off s : Nat} (hS : fieldOf P S i = some (off, s + 1)) (hx : Fr.ev fr x = some (.pointer (some p))) : Yd P n (.fieldAddr S x i) T fr w (.pointer (some (p.add off))) w :=
  .val fun a ha _ _ _ _ => by
    obtain ⟨fs, f, h1, h2, h3, h4⟩ := und_fld hS
    simp [execOp, Instr.fieldAt, run_underlying h1, h2, Instr.sureAddr, ha.ev hx, fieldPlace, h4, h3]
theorem Yd.fieldAddr' {x : Operand} {p : Addr} {k : Nat} {S : TypeId} {i off s : Nat} (hS : fieldOf P S i = some (off, s + 1)) (hx : Fr.ev fr x = some (.pointer (some (p.add k)))) : Yd P n (.fieldAddr S x i) T fr w (.pointer (some (p.add (k + off)))) w := by
  rw [← Deep.add_add]; exact .fieldAddr hS hx

theorem Yd.lenS {x : Operand} {ao : Option Addr} {m c : Nat} {U e : TypeId} {s : Nat} (hU : slOf P U = some (e, s)) (hx : Fr.ev fr x = some (.slice ao m c)) : Yd P n (.call ⟨.builtin .len, #[x], #[U]⟩) T fr w (.int .i64 m) w :=
  .val fun a ha _ _ _ _ => by
    simp [execOp, resolve, invoke, builtin, Builtin.len_, run_underlying (und_sl hU).1, ha.ev hx, goInt]
theorem Yd.lenStr {x : Operand} {l : List UInt8} {U : TypeId} (hU : strOf P U = some true) (hx : Fr.ev fr x = some (.string ⟨l.toArray⟩)) : Yd P n (.call ⟨.builtin .len, #[x], #[U]⟩) T fr w (.int .i64 l.length) w :=
  .val fun a ha d pos aft g => by
    have h := run_len_string (P := P) w U T ⟨l.toArray⟩ (und_str hU)
    rw [show goInt (ByteArray.mk l.toArray).size = Value.int .i64 l.length from rfl] at h
    simp [execOp, resolve, invoke, builtin, ha.ev hx, h]

theorem Yd.indexAddr {x y : Operand} {p : Addr} {len cap : Nat} {U e s : Nat} {q : IntKind} {i : Int} {k : Nat} (hU : slOf P U = some (e, s)) (hx : Fr.ev fr x = some (.slice (some p) len cap)) (hy : Fr.ev fr y = some (.int q i)) (hk : NatOf i k) (h1 : k < len) :
    Yd P n (.indexAddr U x y) T fr w (.pointer (some (p.add (k * s)))) w :=
  .val fun a ha _ _ _ _ => by
    obtain ⟨h2, h3⟩ := und_sl hU
    unfold NatOf at hk
    subst hk
    simp [execOp, Instr.indexAt, asIntOf, ha.ev hx, ha.ev hy, run_underlying h2, h3, h1]
theorem Yd.indexAddr1 {x y : Operand} {p : Addr} {len cap : Nat} {U e : Nat} {q : IntKind} {i : Int} {k : Nat} (hU : slOf P U = some (e, 1)) (hx : Fr.ev fr x = some (.slice (some p) len cap)) (hy : Fr.ev fr y = some (.int q i)) (hk : NatOf i k) (h1 : k < len) :
    Yd P n (.indexAddr U x y) T fr w (.pointer (some (p.add k))) w := by
  have := Yd.indexAddr (P := P) (n := n) (w := w) (T := T) hU hx hy hk h1
  rwa [Nat.mul_one] at this
/-- An element of an array in memory. -/
theorem Yd.indexArr {x y : Operand} {p : Addr} {len : Nat} {U e s : Nat} {q : IntKind} {i : Int} {k : Nat} (hU : arOf P U = some (len, e, s)) (hx : Fr.ev fr x = some (.pointer (some p))) (hy : Fr.ev fr y = some (.int q i)) (hk : NatOf i k) (h1 : k < len) :
    Yd P n (.indexAddr U x y) T fr w (.pointer (some (p.add (k * s)))) w :=
  .val fun a ha _ _ _ _ => by
    obtain ⟨h2, h3⟩ := und_ar hU
    unfold NatOf at hk
    subst hk
    simp [execOp, Instr.indexAt, asIntOf, ha.ev hx, ha.ev hy, Instr.sureAddr, run_underlying h2, h3, h1]
theorem Yd.indexArr1 {x y : Operand} {p : Addr} {len : Nat} {U e : Nat} {q : IntKind} {i : Int} {k : Nat} (hU : arOf P U = some (len, e, 1)) (hx : Fr.ev fr x = some (.pointer (some p))) (hy : Fr.ev fr y = some (.int q i)) (hk : NatOf i k) (h1 : k < len) :
    Yd P n (.indexAddr U x y) T fr w (.pointer (some (p.add k))) w := by
  have := Yd.indexArr (P := P) (n := n) (w := w) (T := T) hU hx hy hk h1
  rwa [Nat.mul_one] at this

end
end Go.Proofs.YtahpiaaffeiadaaGreat
