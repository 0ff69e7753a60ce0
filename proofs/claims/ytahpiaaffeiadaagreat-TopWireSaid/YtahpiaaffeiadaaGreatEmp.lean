/- Rules: a map of texts to numbers, as a function. -/
import Derived.Test.YtahpiaaffeiadaaGreatEid
import Derived.Test.YtahpiaaffeiadaaGreatEpd
import Derived.Maps.OwnSet
import Derived.Lib.AppendStr
import Derived.Laws.Cover3
import Derived.Shelf.Abstract
namespace Go.Proofs.YtahpiaaffeiadaaGreat
open Go Go.RowKit
/-- Block b is a map that answers as F. -/
def MapAt (w : World) (b m : Nat) (F : List UInt8 → Option Nat) : Prop :=
  ∃ D : DataW Unit, w.ownsMap Tryz.prog 9 (plainElem Tryz.prog 3) b m D ∧ (∀ s, Maps.has D (.string s) = (F s).isSome) ∧ ∀ s v, F s = some v → D.atKey (.string s) (.lit (.int .i64 0)) = .lit (.int .i64 (v : Nat))
theorem MapAt.kept {w w' : World} {b m : Nat} {F : List UInt8 → Option Nat} {row : Option Nat} (h : MapAt w b m F) (hg : w.grownBy w' row) (hne : some b ≠ row) : MapAt w' b m F := by
  obtain ⟨D, h1, h2, h3⟩ := h
  exact ⟨D, h1.kept hg hne, h2, h3⟩
theorem ext_grown {w w' : World} (h : Ext w w') : w.grownBy w' none := ⟨h.os, h.tape, h.output, h.size, fun k hk _ => h.block k hk⟩
theorem MapAt.ext {w w' : World} {b m : Nat} {F : List UInt8 → Option Nat} (h : MapAt w b m F) (hE : Ext w w') : MapAt w' b m F := h.kept (ext_grown hE) (by simp)
theorem MapAt.wr {w w' : World} {b m c : Nat} {F : List UInt8 → Option Nat} (h : MapAt w b m F) (hW : Wr c w w') (hne : b ≠ c) : MapAt w' b m F := h.kept hW (by simpa using hne)
theorem MapAt.lt {w : World} {b m : Nat} {F : List UInt8 → Option Nat} (h : MapAt w b m F) : b < w.heap.size := by
  obtain ⟨D, h1, _⟩ := h
  exact h1.lt
theorem MapAt.mono {w : World} {b m m' : Nat} {F : List UInt8 → Option Nat} (h : MapAt w b m F) (hm : m ≤ m') : MapAt w b m' F := by
  obtain ⟨D, h1, h2⟩ := h
  exact ⟨D, h1.mono hm, h2⟩
theorem law9 : Maps.Keyed Tryz.prog 9 := Maps.string_keyed Tryz.underlying9
theorem zero3 (w : World) : (zeroValue 3).run Tryz.prog w = .ok (.int .i64 0) w := by kernel_rfl
theorem key_str (l : List UInt8) (hl : l.length ≤ 1000000) : keyOf Tryz.prog 9 (.string ⟨l.toArray⟩) = some (.string l) := by
  have := WideMaps.keyOf_string_mk (P := Tryz.prog) Tryz.underlying9 (s := ⟨l.toArray⟩) (by show l.toArray.size ≤ maxLen; rw [List.size_toArray]; unfold maxLen; omega)
  rw [this]
def setF (F : List UInt8 → Option Nat) (s : List UInt8) (v : Nat) : List UInt8 → Option Nat := fun t => if t = s then some v else F t
section
variable {n : Fm} {ops : Array Oper} {Q : Exit → Act → World → Prop} {fr : Fr} {w : World} {T : TypeId}
theorem Seg.makeMap {d U : Nat} {pos : String} {aft : Array Edge} {g : Option (Nat × Bool)} {rest : List Oper}
    (hg : gd ops fr g = some true) (hd : Nat.blt d n.n = true)
    (k : ∀ w1 b, b = w.heap.size → MapAt w1 b 0 (fun _ => none) → Ext w w1 → Seg Tryz.prog n ops Q rest ((d, .map (some b)) :: fr) w1) :
    Seg Tryz.prog n ops Q (⟨some d, .makeMap U none, T, pos, aft, g⟩ :: rest) fr w := by
  refine Seg.step (v := .map (some w.heap.size)) (w' := w.alloc (.map #[] 0)) hg hd (.val fun a ha d pos aft g => ?_) (k _ _ rfl ⟨.map [], World.ownsMap_made w Tryz.prog 9 _, fun s => rfl, fun s v h => (by cases h)⟩ (Ext.alloc w _))
  simp [execOp, run_makeMap]
theorem Yd.lookupM {x y : Operand} {b m : Nat} {l : List UInt8} {F : List UInt8 → Option Nat} (hx : Fr.ev fr x = some (.map (some b))) (hy : Fr.ev fr y = some (.string ⟨l.toArray⟩)) (hM : MapAt w b m F) (hl : l.length ≤ 1000000) :
    Yd Tryz.prog n (.lookup 101 x y true) T fr w (.tuple #[.int .i64 ((F l).getD 0 : Nat), .bool (F l).isSome]) w := by
  obtain ⟨D, h1, h2, h3⟩ := hM
  obtain ⟨v, ps, hrun, hv⟩ := h1.look_ok law9 Tryz.underlying101 (zero3 w) (plainElem_int Tryz.underlying3 (by decide)) (key_str l hl)
  obtain ⟨c, rfl, hc, _⟩ := plainElem_int_inv Tryz.underlying3 hv
  have hc : D.atKey (.string l) (.lit (.int .i64 0)) = .lit (.int .i64 c) := congrArg Prod.fst hc
  have hcv : c = ((F l).getD 0 : Nat) := by
    cases hF : F l with
    | none =>
      have hn : Maps.has D (.string l) = false := by rw [h2, hF]; rfl
      rw [Maps.atKey_of_not_has hn] at hc
      cases hc; rfl
    | some v =>
      rw [h3 l v hF] at hc
      cases hc; rfl
  rw [h2] at hrun
  rw [← hcv]
  exact .val fun a ha d pos aft g => by
    simp [execOp, ha.ev hx, ha.ev hy, hrun]
theorem Yd.loadM {x : Operand} {p : Addr} {mo : Option Nat} (hx : Fr.ev fr x = some (.pointer (some p))) (hc : w.cell? p = some (.map mo)) : Yd Tryz.prog n (.load 101 x) T fr w (.map mo) w := by
  have hrun : (loadVar 101 p).run Tryz.prog w = .ok (.map mo) w := by
    unfold loadVar
    rw [Sem.run_bind, run_isAgg_plain Tryz.underlying101 rfl]
    simp [hc]
  exact .val fun a ha _ _ _ _ => by simp [execOp, Instr.loadAt, Instr.sureAddr, ha.ev hx, hrun]
theorem eqGuard_map {x y : Operand} {U : TypeId} {op : BinOp} {p q : Option Nat} : (eqGuard op U x y (.map p) (.map q)).run Tryz.prog w = .ok () w := by
  cases op <;> simp [eqGuard]
theorem Yd.eqlNilM {x y : Operand} {mo : Option Nat} {U' : TypeId} (hx : Fr.ev fr x = some (.map mo)) (hy : Fr.ev fr y = some (.map none)) : Yd Tryz.prog n (.binOp .eql 101 x y U') T fr w (.bool mo.isNone) w :=
  .bin hx hy eqGuard_map (by simp [binOp, run_equal_map_nil w _ _ _ mo Tryz.underlying101])
theorem Seg.mapUpdate {x y z : Operand} {b m v : Nat} {l : List UInt8} {F : List UInt8 → Option Nat} {pos : String} {aft : Array Edge} {g : Option (Nat × Bool)} {rest : List Oper}
    (hg : gd ops fr g = some true) (hx : Fr.ev fr x = some (.map (some b))) (hy : Fr.ev fr y = some (.string ⟨l.toArray⟩)) (hz : Fr.ev fr z = some (.int .i64 (v : Nat))) (hM : MapAt w b m F) (hl : l.length ≤ 1000000) (hv : v ≤ 1000000000) (hm : m ≤ 1000000000)
    (k : ∀ w1, Wr b w w1 → MapAt w1 b (m + 1) (setF F l v) → Seg Tryz.prog n ops Q rest fr w1) :
    Seg Tryz.prog n ops Q (⟨none, .mapUpdate 101 x y z, T, pos, aft, g⟩ :: rest) fr w := by
  obtain ⟨D, h1, h2, h3⟩ := hM
  have hD := h1.isMap
  have hwf : (Lit.int .i64 (v : Int)).wf = true := WalkArith.wf_i64 (by omega)
  obtain ⟨w', hrun, r1, r2⟩ := h1.update law9 Tryz.underlying101 (by unfold maxLen; omega) (key_str l hl) (plainElem_int Tryz.underlying3 hwf)
  refine Seg.step0 (w' := w') hg (.mk fun a ha d pos aft g => by
    simp [execOp, ha.ev hx, ha.ev hy, ha.ev hz, hrun]) (k w' r2 ⟨_, r1, fun s => ?_, fun s u hs => ?_⟩)
  · by_cases e : s = l
    · subst e
      rw [Maps.has_put_same (k := .string s) hD (by trivial)]
      simp [setF]
    · rw [Maps.has_put_other (fun h => e (by injection h)), h2]
      simp [setF, e]
  · by_cases e : s = l
    · subst e
      rw [Maps.atKey_put_same (k := .string s) hD (by trivial)]
      simp [setF] at hs
      rw [hs]
    · rw [Maps.atKey_put_other (fun h => e (by injection h))]
      simp [setF, e] at hs
      exact h3 s u hs
end
/-- Two rows of one's own, of other types, are two. -/
theorem own_apart {w : World} {base base' e e' k k' m m' : Nat} {v u : Value} {cs cs' : List Value} (h : w.ownsRow base e k v m cs) (h' : w.ownsRow base' e' k' u m' cs') (hne : e ≠ e') : u.ownBlock = none ∨ u.ownBlock ≠ v.ownBlock := by
  rcases h'.2 with ⟨rfl, _⟩ | ⟨g', cap', cur', rfl, _, hg', _⟩
  · exact .inl rfl
  · refine .inr fun hb => ?_
    rcases h.2 with ⟨rfl, _⟩ | ⟨g, cap, cur, rfl, _, hg, _⟩
    · cases hb
    · simp only [Value.ownBlock, Option.some.injEq] at hb
      rw [hb, hg] at hg'
      injection hg' with hg'
      injection hg' with _ ht _
      exact hne ht
theorem own_keep {w w1 : World} {base base' e e' k k' m m' : Nat} {v u : Value} {cs cs' : List Value} (h : w.ownsRow base e k v m cs) (h' : w.ownsRow base' e' k' u m' cs') (hne : e ≠ e') (hg : w.grownBy w1 v.ownBlock) : w1.ownsRow base' e' k' u m' cs' :=
  h'.kept hg (own_apart h h' hne)
theorem strCells_of (l : List UInt8) : Lib.strCells ⟨l.toArray⟩ = bytesV l := by simp [Lib.strCells, bytesV]
/-- 'append' of a text onto bytes of one's own. -/
theorem Seg.appStr {n : Fm} {ops : Array Oper} {Q : Exit → Act → World → Prop} {fr : Fr} {w : World} {T : TypeId} {d U base : Nat} {x y : Operand} {pos : String} {aft : Array Edge} {g : Option (Nat × Bool)} {rest : List Oper} {v : Value} {X m : List UInt8}
    (hg : gd ops fr g = some true) (hd : Nat.blt d n.n = true) (hU : slOf Tryz.prog U = some (5, 0 + 1)) (hx : Fr.ev fr x = some v) (hy : Fr.ev fr y = some (.string ⟨m.toArray⟩)) (ho : OwnB w base v X) (hb : base ≤ w.heap.size) (hl : X.length + m.length ≤ 100000000)
    (k : ∀ v' w1, OwnB w1 base v' (X ++ m) → w.grownBy w1 v.ownBlock → (∀ a0 : World, Ext a0 w → a0.heap.size ≤ base → Ext a0 w1) → w.heap.size ≤ w1.heap.size → Seg Tryz.prog n ops Q rest ((d, v') :: fr) w1) :
    Seg Tryz.prog n ops Q (⟨some d, .call ⟨.builtin .append, #[x, y], #[U, 9]⟩, T, pos, aft, g⟩ :: rest) fr w := by
  obtain ⟨i, hi, hby, hs, hz⟩ := info_all (P := Tryz.prog) (T := 5) (b := 1) (s := 1) (z := .int .u8 0) rfl rfl rfl
  have hml : (ByteArray.mk m.toArray).size = m.length := List.size_toArray
  obtain ⟨v', w1, hrun, h2, h3, _⟩ := Lib.run_append_own_string (P := Tryz.prog) w base U 9 T 5 i (und_sl hU).1 Tryz.underlying9 hi hz hs hby v X.length (bytesV X) ho ⟨m.toArray⟩ (by rw [hml]; unfold maxLen; omega) (by rw [hml]; omega) hb
  rw [hml, strCells_of] at h2
  refine Seg.step hg hd (.val fun a ha d pos aft g => ?_) (k v' w1 (own_snoc h2) h3 (fun _ hE h => Ext.own hE ho h h3) h3.size)
  simp [execOp, resolve, invoke, builtin, ha.ev hx, ha.ev hy, hrun]
/-- Numbers as cells. -/
def intsN (l : List Nat) : List Value := l.map fun (c : Nat) => Value.int .i64 (c : Int)
theorem intsN_one (l : List Nat) : ∀ c ∈ intsN l, c.oneCell' = true := by
  intro c hc
  obtain ⟨x, _, rfl⟩ := List.mem_map.1 hc
  rfl
theorem intsN_append (l m : List Nat) : intsN (l ++ m) = intsN l ++ intsN m := by simp [intsN]
theorem intsN_at {l : List Nat} {i c : Nat} (h : l[i]? = some c) : (intsN l)[i]? = some (.int .i64 (c : Int)) := by simp [intsN, h]
abbrev OwnI (w : World) (base : Nat) (v : Value) (l : List Nat) : Prop := w.ownsRow base 3 1 v l.length (intsN l)
theorem owni_snoc {w : World} {base : Nat} {v : Value} {l m : List Nat} (h : w.ownsRow base 3 (0 + 1) v (l.length + m.length) (intsN l ++ intsN m)) : OwnI w base v (l ++ m) := by
  unfold OwnI
  rw [List.length_append, intsN_append]; exact h
theorem Seg.appI {n : Fm} {ops : Array Oper} {Q : Exit → Act → World → Prop} {fr : Fr} {w : World} {T : TypeId} {d U base : Nat} {x y : Operand} {pos : String} {aft : Array Edge} {g : Option (Nat × Bool)} {rest : List Oper} {v u : Value} {X m : List Nat}
    (hg : gd ops fr g = some true) (hd : Nat.blt d n.n = true) (hU : slOf Tryz.prog U = some (3, 0 + 1)) (hx : Fr.ev fr x = some v) (hy : Fr.ev fr y = some u) (ho : OwnI w base v X) (hs : Sl w (0 + 1) u m.length (intsN m)) (hb : base ≤ w.heap.size) (hl : X.length + m.length ≤ 100000000)
    (k : ∀ v' w1, OwnI w1 base v' (X ++ m) → w.grownBy w1 v.ownBlock → (∀ a0 : World, Ext a0 w → a0.heap.size ≤ base → Ext a0 w1) → w.heap.size ≤ w1.heap.size → Seg Tryz.prog n ops Q rest ((d, v') :: fr) w1) :
    Seg Tryz.prog n ops Q (⟨some d, .call ⟨.builtin .append, #[x, y], #[U, U]⟩, T, pos, aft, g⟩ :: rest) fr w :=
  Seg.appendAt (xs := intsN X) (news := intsN m) hg hd hU rfl rfl rfl rfl hx hy ho hs (intsN_one m) hb hl rfl fun v' w1 hN hG _ =>
    k v' w1 (owni_snoc hN) hG (fun _ hE h => Ext.own hE ho h hG) hG.size
end Go.Proofs.YtahpiaaffeiadaaGreat
