/- Rules: a text's bytes, copied into a block of one's own. -/
import Derived.Test.YtbmgigbedmgfpaaWkw
import Derived.Lib.ConvBytes
namespace Go.Proofs.Ytbmgigbedmgfpaa
open Go Go.RowKit
/-- A block of these cells, whose frozen cell, if there is one, lies behind them. -/
def Bf (w : World) (b : Nat) (cs : List Value) : Prop := ∃ T lo hi, w.heap[b]? = some (.cells cs.toArray T (lo, hi)) ∧ cs.length ≤ lo
theorem Bf.row {w : World} {b : Nat} {cs : List Value} (h : Bf w b cs) : Row w ⟨b, 0, none⟩ cs := fun j v hj => by
  obtain ⟨T, lo, hi, hT, _⟩ := h
  have e : (Addr.add ⟨b, 0, none⟩ j) = ⟨b, j, none⟩ := by unfold Addr.add; split <;> simp_all
  rw [e]
  simp [World.cell?, hT, hj]
theorem Bf.lt {w : World} {b : Nat} {cs : List Value} (h : Bf w b cs) : b < w.heap.size := by
  obtain ⟨T, lo, hi, hT, _⟩ := h
  exact (Array.getElem?_eq_some_iff.1 hT).1
theorem Bf.ext {w w' : World} {b : Nat} {cs : List Value} (h : Bf w b cs) (k : Ext w w') : Bf w' b cs := by
  have := h.lt
  obtain ⟨T, lo, hi, hT, hl⟩ := h
  exact ⟨T, lo, hi, by rw [k.block _ this]; exact hT, hl⟩
theorem Bf.frozen {w : World} {b : Nat} {cs : List Value} (h : Bf w b cs) {j : Nat} (hj : j < cs.length) : w.frozen? ⟨b, j, none⟩ = false := by
  obtain ⟨T, lo, hi, hT, hl⟩ := h
  simp [World.frozen?, hT]
  omega
theorem heap_setCell_same' (w : World) (b k : Nat) (cs : Array Value) (T : TypeId) (f : Nat × Nat) (v : Value) (hT : w.heap[b]? = some (.cells cs T f)) : (w.setCell ⟨b, k, none⟩ v).heap[b]? = some (.cells (cs.setIfInBounds k v) T f) := by
  rw [setCell_eq_setRow w b k cs T f v hT]
  exact setRow_heap w b cs _ T _ hT
theorem Bf.set {w : World} {b : Nat} {cs : List Value} (h : Bf w b cs) (k : Nat) (v : Value) : Bf (w.setCell ⟨b, k, none⟩ v) b (cs.set k v) ∧ Wr b w (w.setCell ⟨b, k, none⟩ v) := by
  obtain ⟨T, lo, hi, hT, hl⟩ := h
  refine ⟨⟨T, lo, hi, by rw [heap_setCell_same' w b k cs.toArray T (lo, hi) v hT]; simp, by simpa using hl⟩, ⟨rfl, rfl, rfl, by simp, fun i _ hi => heap_setCell_other w _ i v (fun e => hi (by rw [e]))⟩⟩
section
variable {P : Program} [Tys P] {n : Nat} {ops : Array Oper} {Q : Exit → Act → World → Prop} {fr : Fr} {w : World} {T : TypeId}
theorem run_storeF {U : TypeId} {b k : Nat} {cs : List Value} {v : Value} (hU : szOf P U = some 1) (hv : v.oneCell' = true) (hB : Bf w b cs) (hk : k < cs.length) : (storeVar U (Addr.add ⟨b, 0, none⟩ k) v).run P w = .ok () (w.setCell ⟨b, k, none⟩ v) := by
  have hc : v.cells = #[v] := by cases v <;> first | rfl | cases hv
  have hcell := hB.row k cs[k] (by simp [hk])
  rw [addr_lit] at hcell ⊢
  have hf := hB.frozen hk
  unfold storeVar
  rw [Sem.run_bind, run_size hU]
  simp only [Result.andThen_ok, hc]
  simp only [List.size_toArray, List.length_cons, List.length_nil, Nat.zero_add, ne_eq, not_true_eq_false, if_false]
  simp [storeCells, Addr.add0, run_store P w _ v _ hv, hcell, hf]
theorem Seg.storeF {U : TypeId} {x y : Operand} {T : TypeId} {pos : String} {aft : Array Edge} {g : Option (Nat × Bool)} {rest : List Oper} {b k : Nat} {cs : List Value} {v : Value}
    (hg : gd ops fr g = some true) (hU : szOf P U = some 1) (hx : Fr.ev fr x = some (.pointer (some (Addr.add ⟨b, 0, none⟩ k)))) (hy : Fr.ev fr y = some v) (hv : v.oneCell' = true) (hB : Bf w b cs) (hk : k < cs.length)
    (kk : ∀ w1, Wr b w w1 → Bf w1 b (cs.set k v) → Seg P n ops Q rest fr w1) : Seg P n ops Q (⟨none, .store U x y, T, pos, aft, g⟩ :: rest) fr w :=
  Seg.step0 (w' := w.setCell ⟨b, k, none⟩ v) hg (.mk fun a ha d pos aft g => by
    simp [execOp, Instr.storeAt, Instr.sureAddr, ha.ev hx, ha.ev hy, run_storeF hU hv hB hk]) (kk _ (hB.set k v).2 (hB.set k v).1)
/-- '[]byte(s)'. -/
theorem Seg.stb {d : Nat} {U U' e k : Nat} {x : Operand} {pos : String} {aft : Array Edge} {g : Option (Nat × Bool)} {rest : List Oper} {l : List UInt8}
    (hg : gd ops fr g = some true) (hd : Nat.blt d n = true) (hS : strOf P U = some true) (hD : slOf P U' = some (e, k)) (he : kindOf P e = some .u8) (hx : Fr.ev fr x = some (.string ⟨l.toArray⟩))
    (kk : ∀ w1 b zs c, Ext w w1 → Bf w1 b (bytesV l ++ zs) → w.heap.size ≤ b → Seg P n ops Q rest ((d, .slice (some ⟨b, 0, none⟩) l.length c) :: fr) w1) :
    Seg P n ops Q (⟨some d, .convert U U' x, T, pos, aft, g⟩ :: rest) fr w := by
  have hrun := Lib.run_convert_string_bytes (P := P) w U U' e ⟨l.toArray⟩ (und_str hS) (und_sl hD).1 (und_kind he)
  refine Seg.step hg hd (w' := Lib.bytesWorld w e ⟨l.toArray⟩) (.val fun a ha d pos aft g => ?_) (kk _ w.heap.size (List.replicate (grownCap w (ByteArray.mk l.toArray).size 0 e - (ByteArray.mk l.toArray).size) (.int .u8 0)) (grownCap w (ByteArray.mk l.toArray).size 0 e) ?_ ?_ (Nat.le_refl _))
  · simp only [execOp, ha.ev hx]
    rw [Sem.run_bind, hrun]
    rfl
  · exact ⟨rfl, rfl, rfl, by rw [Lib.bytesWorld_size]; omega, fun j hj => Lib.bytesWorld_at_old w e _ j hj⟩
  · have hc : Lib.bytesCells w e ⟨l.toArray⟩ = (bytesV l ++ List.replicate (grownCap w (ByteArray.mk l.toArray).size 0 e - (ByteArray.mk l.toArray).size) (Value.int .u8 0)).toArray := by
      apply Array.ext'
      simp [Lib.bytesCells, bytesV]
    have hn := Lib.bytesWorld_at_new w e ⟨l.toArray⟩
    rw [hc] at hn
    exact ⟨e, _, _, hn, by simp⟩
end
theorem Bf.sl {w : World} {b m : Nat} {cs zs : List Value} (h : Bf w b (cs ++ zs)) (hl : cs.length = m) (c : Nat) : Sl w 1 (.slice (some ⟨b, 0, none⟩) m c) m cs :=
  ⟨_, c, rfl, by omega, fun a ha => (by
    cases ha
    have := h.row.take cs.length
    rwa [List.take_left] at this), fun h => by cases h⟩
end Go.Proofs.Ytbmgigbedmgfpaa
