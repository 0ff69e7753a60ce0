/- Rules: a struct stored over a part of a block of one's own; rows of structs. -/
import Derived.Test.YtahpiaaffeiadaaGreatDoorWkj
import Derived.Laws.Tables
namespace Go.Proofs.YtahpiaaffeiadaaGreatDoor
open Go Go.RowKit
theorem run_storeCells_mid {P : Program} (g k : Nat) (t : TypeId) : ∀ (vs : List Value) (i : Nat) (cur : Array Value) (w : World), w.heap[g]? = some (.cells cur t (0, 0)) → k + i + vs.length ≤ cur.size → (∀ v ∈ vs, v.oneCell' = true) →
    (storeCells ⟨g, k, none⟩ vs i).run P w = .ok () (w.setRow g (cur.toList.take (k + i) ++ (vs ++ cur.toList.drop (k + i + vs.length))).toArray)
  | [], i, cur, w, hg, hl, _ => by
    have hlt : g < w.heap.size := (Array.getElem?_eq_some_iff.1 hg).1
    have hv : w.heap[g] = .cells cur t (0, 0) := (Array.getElem?_eq_some_iff.1 hg).2
    simp only [storeCells, List.nil_append, List.length_nil, Nat.add_zero, List.take_append_drop, Array.toArray_toList]
    show Result.ok () w = _
    congr 1
    unfold World.setRow
    cases w with
    | mk heap tape drawn os output =>
      congr 1
      apply Array.ext
      · simp
      · intro k h1 h2
        simp only [Array.getElem_modify]
        split
        · rename_i hk; subst hk; simp at hv; simp [hv]
        · rfl
  | v :: rest, i, cur, w, hg, hl, h1 => by
    have hi : k + i < cur.size := by simp at hl; omega
    have hadd : (⟨g, k, none⟩ : Addr).add i = ⟨g, k + i, none⟩ := by unfold Addr.add; split <;> simp_all
    have hcell : w.cell? ⟨g, k + i, none⟩ = some cur[k + i] := by simp [World.cell?, hg, hi]
    have hfro : w.frozen? ⟨g, k + i, none⟩ = false := by simp [World.frozen?, hg]
    have hst : (store ((⟨g, k, none⟩ : Addr).add i) v).run P w = .ok () (w.setRow g (cur.setIfInBounds (k + i) v)) := by
      rw [hadd, run_store P w _ v _ (h1 v (by simp)), hcell]
      simp [hfro, setCell_eq_setRow w g (k + i) cur t (0, 0) v hg]
    have ih := run_storeCells_mid (P := P) g k t rest (i + 1) (cur.setIfInBounds (k + i) v) (w.setRow g (cur.setIfInBounds (k + i) v)) (setRow_heap w g cur _ t _ hg) (by simp at hl ⊢; omega) (fun x hx => h1 x (by simp [hx]))
    simp only [storeCells, Sem.run_bind, hst, Result.andThen_ok, ih, setRow_setRow]
    congr 3
    have hlen : k + i < cur.toList.length := by simpa using hi
    have e1 : (cur.setIfInBounds (k + i) v).toList = cur.toList.set (k + i) v := by simp
    rw [e1]
    have e2 : (cur.toList.set (k + i) v).take (k + (i + 1)) = cur.toList.take (k + i) ++ [v] := by
      rw [show k + (i + 1) = (k + i) + 1 by omega, List.take_set, List.take_succ_eq_append_getElem hlen]
      rw [List.set_append_right _ _ (by rw [List.length_take]; omega), List.length_take, show k + i - min (k + i) cur.toList.length = 0 by omega]
      rfl
    have e3 : (cur.toList.set (k + i) v).drop (k + (i + 1) + rest.length) = cur.toList.drop (k + i + (v :: rest).length) := by
      rw [List.drop_set_of_lt (by omega)]
      congr 1
      simp only [List.length_cons]; omega
    rw [e2, e3]
    simp
section
variable {P : Program} [Tys P] {n : Fm} {ops : Array Oper} {Q : Exit → Act → World → Prop} {fr : Fr} {w : World} {T : TypeId}
/-- A struct stored into a block of one's own, at place k. -/
theorem Seg.storeMid {U : TypeId} {x y : Operand} {pos : String} {aft : Array Edge} {g : Option (Nat × Bool)} {rest : List Oper} {b k : Nat} {cs : List Value} {a : Array Value}
    (hg : gd ops fr g = some true) (hU : szOf P U = some a.toList.length) (hx : Fr.ev fr x = some (.pointer (some (Addr.add ⟨b, 0, none⟩ k)))) (hy : Fr.ev fr y = some (.agg a)) (hB : Bx w b cs) (hl : k + a.toList.length ≤ cs.length)
    (hv : ∀ c ∈ a.toList, c.oneCell' = true)
    (kk : ∀ w1, Wr b w w1 → Bx w1 b (cs.take k ++ (a.toList ++ cs.drop (k + a.toList.length))) → Seg P n ops Q rest fr w1) : Seg P n ops Q (⟨none, .store U x y, T, pos, aft, g⟩ :: rest) fr w := by
  obtain ⟨h1, h2⟩ := hB.setRow (cs.take k ++ (a.toList ++ cs.drop (k + a.toList.length)))
  obtain ⟨TT, hT⟩ := hB
  have hrun : (storeVar U (Addr.add ⟨b, 0, none⟩ k) (.agg a)).run P w = .ok () (w.setRow b (cs.take k ++ (a.toList ++ cs.drop (k + a.toList.length))).toArray) := by
    have := run_storeCells_mid (P := P) b k TT a.toList 0 cs.toArray w hT (by simp only [List.size_toArray]; omega) hv
    rw [addr_lit]
    unfold storeVar
    rw [Sem.run_bind, run_size hU]
    simp only [Result.andThen_ok, Value.cells]
    simpa using this
  exact Seg.step0 (w' := w.setRow b (cs.take k ++ (a.toList ++ cs.drop (k + a.toList.length))).toArray) hg (.mk fun a' ha d pos aft g => by
    simp [execOp, Instr.storeAt, Instr.sureAddr, ha.ev hx, ha.ev hy, hrun]) (kk _ h2 h1)
end
section
variable {P : Program} {n : Fm} {ops : Array Oper} {Q : Exit → Act → World → Prop} {z fuel : Nat} {listed : Array Bool} {fr : Fr} {w : World}
theorem Cd.anyE {id : Nat} {l : List Oper} (hm : P.follows .mixedOrders = true) (h : ∀ w1, Ext w w1 → SegA P n l.toArray Q l.length (Array.replicate l.length false) fr w1) : Cd P n Q (.region id l.toArray true) fr w :=
  Cd.any hm (h _ (Ext.drew w))
/-- From here on what reads is taken first. -/
theorem SegA.held (z : Nat) (h : SegG P n ops Q z fuel listed fr w) : SegA P n ops Q fuel listed fr w := .mk fun a ha => wpAny_of_G _ _ _ _ (h.out a ha)
theorem SegA.gsplit (i : Nat) {d : Option Nat} {op : Op} {T : TypeId} {pos : String} {aft : Array Edge} {j : Nat} {b : Bool} {k : Nat} {t : Bool} (_hi : ops[i]? = some ⟨d, op, T, pos, aft, some (j, b)⟩) (_hj : gdst ops j = some k) (hk : Fr.look fr k = some (.bool t))
    (ht : t = true → SegA P n ops Q fuel listed ((k, .bool true) :: fr) w) (hf : t = false → SegA P n ops Q fuel listed ((k, .bool false) :: fr) w) : SegA P n ops Q fuel listed fr w := .mk fun a ha => by
  cases t
  · exact (hf rfl).out a (ha.again hk)
  · exact (ht rfl).out a (ha.again hk)
theorem SegA.gsplitp (i : Nat) {d : Option Nat} {op : Op} {T : TypeId} {pos : String} {aft : Array Edge} {j : Nat} {b : Bool} {k : Nat} {p : Prop} [Decidable p] (hi : ops[i]? = some ⟨d, op, T, pos, aft, some (j, b)⟩) (hj : gdst ops j = some k) (hk : Fr.look fr k = some (.bool (decide p)))
    (ht : p → SegA P n ops Q fuel listed ((k, .bool true) :: fr) w) (hf : ¬ p → SegA P n ops Q fuel listed ((k, .bool false) :: fr) w) : SegA P n ops Q fuel listed fr w :=
  SegA.gsplit i hi hj hk (fun h => ht (of_decide_eq_true h)) (fun h => hf (of_decide_eq_false h))
end
/-! ### Rows of structs -/
section
variable {E : Type} {cel : E → List Value} {K : Nat}
theorem flat_len (hK : ∀ x, (cel x).length = K) : ∀ xs : List E, (xs.flatMap cel).length = xs.length * K
  | [] => by simp
  | x :: xs => by rw [List.flatMap_cons, List.length_append, hK, flat_len hK xs, List.length_cons, Nat.succ_mul]; omega
theorem flat_take (hK : ∀ x, (cel x).length = K) (xs : List E) (i : Nat) : (xs.take i).flatMap cel = (xs.flatMap cel).take (i * K) := by
  rcases Nat.lt_or_ge i xs.length with h | h
  · conv => rhs; rw [← List.take_append_drop i xs, List.flatMap_append]
    rw [List.take_left' (by rw [flat_len hK, List.length_take]; congr 1; omega)]
  · rw [List.take_of_length_le h, List.take_of_length_le (by rw [flat_len hK]; exact Nat.mul_le_mul_right _ h)]
theorem flat_drop (hK : ∀ x, (cel x).length = K) (xs : List E) (i : Nat) : (xs.drop i).flatMap cel = (xs.flatMap cel).drop (i * K) := by
  rcases Nat.lt_or_ge i xs.length with h | h
  · conv => rhs; rw [← List.take_append_drop i xs, List.flatMap_append]
    rw [List.drop_left' (by rw [flat_len hK, List.length_take]; congr 1; omega)]
  · rw [List.drop_of_length_le h, List.drop_of_length_le (by rw [flat_len hK]; exact Nat.mul_le_mul_right _ h)]; rfl
theorem flat_row (hK : ∀ x, (cel x).length = K) {w : World} {a : Addr} {xs : List E} {zs : List Value} (h : Row w a (xs.flatMap cel ++ zs)) {i : Nat} {x : E} (hx : xs[i]? = some x) : Row w (a.add (i * K)) (cel x) := by
  have h1 := h.part (i * K) K
  obtain ⟨hi, he⟩ := List.getElem?_eq_some_iff.1 hx
  have h2 : ((xs.flatMap cel ++ zs).drop (i * K)).take K = cel x := by
    rw [List.drop_append_of_le_length (by rw [flat_len hK]; exact Nat.mul_le_mul_right _ (Nat.le_of_lt hi)), ← flat_drop hK, List.drop_eq_getElem_cons hi, List.flatMap_cons, he, List.append_assoc, List.take_left' (hK x)]
  rw [h2] at h1
  exact h1
theorem flat_set (hK : ∀ x, (cel x).length = K) {xs : List E} {zs : List Value} {i : Nat} {y : E} (hi : i < xs.length) :
    (xs.flatMap cel ++ zs).take (i * K) ++ (cel y ++ (xs.flatMap cel ++ zs).drop (i * K + (cel y).length)) = (xs.set i y).flatMap cel ++ zs := by
  have hl := flat_len hK xs
  have h1 : i * K ≤ (xs.flatMap cel).length := by rw [hl]; exact Nat.mul_le_mul_right _ (Nat.le_of_lt hi)
  have h2 : i * K + K ≤ (xs.flatMap cel).length := by rw [hl, ← Nat.succ_mul]; exact Nat.mul_le_mul_right _ hi
  rw [hK, List.take_append_of_le_length h1, List.drop_append_of_le_length h2, ← flat_take hK, show i * K + K = (i + 1) * K by rw [Nat.succ_mul], ← flat_drop hK]
  rw [List.set_eq_take_append_cons_drop, if_pos hi, List.flatMap_append, List.flatMap_cons]
  simp
end
end Go.Proofs.YtahpiaaffeiadaaGreatDoor
