/- Bytes of one's own whose row may bear a mark behind its end: what '[]byte(s)' makes. -/
import Derived.Test.YtahpiaaffeiadaaGreatDoorEpk
namespace Go.Proofs.YtahpiaaffeiadaaGreatDoor
open Go Go.RowKit
/-- v owns these bytes; nothing of its row is frozen. -/
def OwnM (w : World) (base : Nat) (v : Value) (X : List UInt8) : Prop :=
  ∃ (g cap : Nat) (cur : Array Value) (fz : Nat × Nat), v = .slice (some ⟨g, 0, none⟩) X.length cap ∧ base ≤ g ∧ w.heap[g]? = some (.cells cur 5 fz) ∧ (fz.2 = 0 ∨ cur.size ≤ fz.1) ∧ X.length ≤ cap ∧ cap ≤ maxLen ∧ cur.size = cap ∧ cur.toList.take X.length = bytesV X
theorem OwnM.kept {w w' : World} {base : Nat} {v : Value} {X : List UInt8} {row : Option Nat} (h : OwnM w base v X) (hg : w.grownBy w' row) (hne : v.ownBlock ≠ row) : OwnM w' base v X := by
  obtain ⟨g, cap, cur, fz, rfl, h1, h2, h3⟩ := h
  exact ⟨g, cap, cur, fz, rfl, h1, (hg.block g (Array.getElem?_eq_some_iff.1 h2).1 hne).trans h2, h3⟩
theorem OwnM.ext {w w' : World} {base : Nat} {v : Value} {X : List UInt8} (h : OwnM w base v X) (hE : Ext w w') : OwnM w' base v X := by
  obtain ⟨g, cap, cur, fz, rfl, h1, h2, h3⟩ := h
  exact ⟨g, cap, cur, fz, rfl, h1, (hE.block g (Array.getElem?_eq_some_iff.1 h2).1).trans h2, h3⟩
theorem OwnM.sl {w : World} {base : Nat} {v : Value} {X : List UInt8} (h : OwnM w base v X) : Sl w 1 v X.length (bytesV X) := by
  obtain ⟨g, cap, cur, fz, rfl, h1, h2, h3, h4, h5, h6, h7⟩ := h
  refine ⟨_, _, rfl, by rw [bytesV_length]; omega, fun a ha j u hu => ?_, fun h => (by cases h)⟩
  cases ha
  rw [addr_lit]
  rw [← h7, List.getElem?_take] at hu
  split at hu
  · simp only [World.cell?, h2]
    simpa using hu
  · cases hu
theorem OwnM.one {w : World} {base : Nat} {v : Value} {X : List UInt8} (h : OwnM w base v X) : v.oneCell' = true := by
  obtain ⟨g, cap, cur, fz, rfl, _⟩ := h; rfl
/-- Bytes of one's own do not lie in a block that begins with something else. -/
theorem OwnM.off {w : World} {base p : Nat} {v : Value} {X : List UInt8} {cs : List Value} {c : Value} (h : OwnM w base v X) (hX : X ≠ []) (hB : Bx w p (c :: cs)) (hc : ∀ i, c ≠ .int .u8 i) : v.ownBlock ≠ some p := fun e => by
  obtain ⟨T, hT⟩ := hB
  obtain ⟨g, cap, cur, fz, rfl, _, hg, _, _, _, _, ht⟩ := h
  simp only [Value.ownBlock, Option.some.injEq] at e
  rw [e, hT] at hg
  injection hg with hg
  injection hg with hg _ _
  subst hg
  cases X with
  | nil => exact hX rfl
  | cons x X =>
    have h2 : (c :: cs).take (x :: X).length = bytesV (x :: X) := ht
    rw [List.length_cons, List.take_succ_cons] at h2
    injection h2 with h2 _
    exact hc _ h2
theorem OwnM.offmap {w : World} {base bm m' : Nat} {v : Value} {X : List UInt8} {F : List UInt8 → Option Nat} (h : OwnM w base v X) (hM : MapAt w bm m' F) : v.ownBlock ≠ some bm := fun e => by
  obtain ⟨D, ⟨es, clock, hb, _⟩, _⟩ := hM
  obtain ⟨g, cap, cur, fz, rfl, _, hg, _⟩ := h
  simp only [Value.ownBlock, Option.some.injEq] at e
  rw [e, hb] at hg
  cases hg
theorem storeCells_mark (P : Program) (g o : Nat) (t : TypeId) (fz : Nat × Nat) : ∀ (vs : List Value) (i : Nat) (cur : Array Value) (w : World), w.heap[g]? = some (.cells cur t fz) → (fz.2 = 0 ∨ cur.size ≤ fz.1) → o + i + vs.length ≤ cur.size → (∀ v ∈ vs, v.oneCell' = true) →
    (storeCells ⟨g, o, none⟩ vs i).run P w = .ok () (w.setRow g (cur.toList.take (o + i) ++ vs ++ cur.toList.drop (o + i + vs.length)).toArray)
  | [], i, cur, w, hg, _, _, _ => by
    simp only [storeCells, List.append_nil, List.length_nil, Nat.add_zero, List.take_append_drop, Array.toArray_toList]
    rw [setRow_self w g cur t fz hg]
    rfl
  | v :: rest, i, cur, w, hg, hfz, hl, h1 => by
    have hi : o + i < cur.size := by simp at hl; omega
    have hadd : (⟨g, o, none⟩ : Addr).add i = ⟨g, o + i, none⟩ := by unfold Addr.add; split <;> simp_all
    have hcell : w.cell? ⟨g, o + i, none⟩ = some cur[o + i] := by simp [World.cell?, hg, hi]
    have hfro : w.frozen? ⟨g, o + i, none⟩ = false := by
      obtain ⟨lo, hi'⟩ := fz
      simp only [World.frozen?, hg, Bool.and_eq_false_iff, decide_eq_false_iff_not]
      simp only at hfz
      omega
    have hst : (store ((⟨g, o, none⟩ : Addr).add i) v).run P w = .ok () (w.setRow g (cur.setIfInBounds (o + i) v)) := by
      rw [hadd, run_store P w _ v _ (h1 v (by simp)), hcell]
      simp [hfro, setCell_eq_setRow w g (o + i) cur t fz v hg]
    have ih := storeCells_mark P g o t fz rest (i + 1) (cur.setIfInBounds (o + i) v) (w.setRow g (cur.setIfInBounds (o + i) v)) (setRow_heap w g cur _ t _ hg) (by simpa using hfz) (by simp at hl ⊢; omega) (fun x hx => h1 x (by simp [hx]))
    simp only [storeCells, Sem.run_bind, hst, Result.andThen_ok, ih, setRow_setRow]
    congr 3
    have e := list_seg_step cur.toList (o + i) v rest (by simp at hl ⊢; omega)
    simpa [Array.toList_setIfInBounds, Nat.add_assoc] using e
/-- 'append' of a text onto such bytes. -/
theorem Seg.appM {n : Fm} {ops : Array Oper} {Q : Exit → Act → World → Prop} {fr : Fr} {w : World} {T : TypeId} {d U base : Nat} {x y : Operand} {pos : String} {aft : Array Edge} {g : Option (Nat × Bool)} {rest : List Oper} {v : Value} {X m : List UInt8}
    (hg : gd ops fr g = some true) (hd : Nat.blt d n.n = true) (hU : slOf Tryz.prog U = some (5, 0 + 1)) (hx : Fr.ev fr x = some v) (hy : Fr.ev fr y = some (.string ⟨m.toArray⟩)) (ho : OwnM w base v X) (hb : base ≤ w.heap.size) (hl : X.length + m.length ≤ 100000000)
    (k : ∀ v' w1, OwnM w1 base v' (X ++ m) → w.grownBy w1 v.ownBlock → (∀ a0 : World, Ext a0 w → a0.heap.size ≤ base → Ext a0 w1) → w.heap.size ≤ w1.heap.size → Seg Tryz.prog n ops Q rest ((d, v') :: fr) w1) :
    Seg Tryz.prog n ops Q (⟨some d, .call ⟨.builtin .append, #[x, y], #[U, 9]⟩, T, pos, aft, g⟩ :: rest) fr w := by
  obtain ⟨i, hi, hby, hs, hz⟩ := info_all (P := Tryz.prog) (T := 5) (b := 1) (s := 1) (z := .int .u8 0) rfl rfl rfl
  have hml : (ByteArray.mk m.toArray).size = m.length := List.size_toArray
  have hlen : (X ++ m).length = X.length + m.length := List.length_append
  have hund := (und_sl hU).1
  obtain ⟨r, cap, cur, fz, rfl, h1, h2, h3, h4, h5, h6, h7⟩ := ho
  have key : ∃ v' w1, (Builtin.append_ #[U, 9] T #[.slice (some ⟨r, 0, none⟩) X.length cap, .string ⟨m.toArray⟩]).run Tryz.prog w = .ok v' w1 ∧ OwnM w1 base v' (X ++ m) ∧ w.grownBy w1 (some r) := by
    by_cases hroom : X.length + m.length ≤ cap
    · have hf := Lib.run_firstCells_string (P := Tryz.prog) w 1 ⟨m.toArray⟩
      have hst := storeCells_mark Tryz.prog r X.length 5 fz (Lib.strCells ⟨m.toArray⟩) 0 cur w h2 h3 (by rw [Lib.strCells_length, hml]; omega) (Lib.strCells_oneCell _)
      simp only [Nat.add_zero, Lib.strCells_length, hml] at hst
      rw [strCells_of] at hst hf
      rw [hml] at hf
      refine ⟨.slice (some ⟨r, 0, none⟩) (X.length + m.length) cap, _, ?_, ⟨r, cap, (cur.toList.take X.length ++ bytesV m ++ cur.toList.drop (X.length + m.length)).toArray, fz, by rw [hlen], h1, setRow_heap w r cur _ _ fz h2, ?_, by omega, h5, ?_, ?_⟩, ⟨rfl, rfl, rfl, by simp, fun k _ hk => setRow_other w r k _ (fun e => hk (by rw [e]))⟩⟩
      · simp [Builtin.append_, run_underlying hund, run_underlying Tryz.underlying9, sizeOf, typeInfo, hi, hs, Builtin.lenOf, hml, hroom, hf, Addr.add_lit, hst]
      · rcases h3 with h3 | h3
        · exact .inl h3
        · refine .inr ?_
          simp only [List.size_toArray, List.length_append, List.length_take, List.length_drop, Array.length_toList, bytesV_length]
          omega
      · simp only [List.size_toArray, List.length_append, List.length_take, List.length_drop, Array.length_toList, bytesV_length]
        omega
      · rw [h7, ← bytesV_append]
        simp only
        rw [← bytesV_length (X ++ m)]
        exact List.take_left
    · have holds : ∀ j u, (bytesV X)[j]? = some u → w.cell? ((⟨r, 0, none⟩ : Addr).add j) = some u := by
        intro j u hu
        have hO : OwnM w base (.slice (some ⟨r, 0, none⟩) X.length cap) X := ⟨r, cap, cur, fz, rfl, h1, h2, h3, h4, h5, h6, h7⟩
        obtain ⟨a, c, e, _, hr, _⟩ := hO.sl
        cases e
        exact hr _ rfl j u hu
      have hr := Lib.run_append_grow_string (P := Tryz.prog) w U 9 T 5 i (.int .u8 0) hund Tryz.underlying9 hi hz ⟨r, 0, none⟩ X.length cap (bytesV X) (by rw [hs, bytesV_length]; omega) holds ⟨m.toArray⟩ (by rw [hml]; omega) (by rw [hml]; omega) (by rw [hby]; exact growslice_fits (by rw [hml]; omega) (by rw [hml]; omega))
      have hge := grownCap_ge w (X.length + m.length) cap 5
      have hcm2 : grownCap w (X.length + m.length) cap 5 ≤ maxLen := grownCap_le_maxLen w (X.length + m.length) cap 5 (by unfold maxLen; omega)
      rw [hml, strCells_of] at hr
      refine ⟨_, _, hr, ⟨w.heap.size, _, _, (0, 0), by rw [hlen], hb, heap_alloc_new w.drew _, .inl rfl, by rw [hlen]; exact hge, hcm2, ?_, ?_⟩, ⟨rfl, rfl, rfl, by simp, fun k hk _ => heap_alloc_old w.drew _ hk⟩⟩
      · have hz1 : (Value.int IntKind.u8 0).cells.size = 1 := rfl
        simp only [Array.size_append, List.size_toArray, size_zeroCells, hz1, bytesV_length]
        omega
      · simp only [Array.toList_append, List.append_assoc]
        rw [← List.append_assoc, ← bytesV_append, ← bytesV_length (X ++ m)]
        exact List.take_left
  obtain ⟨v', w1, hrun, hN, hG⟩ := key
  refine Seg.step hg hd (.val fun a ha d pos aft g => ?_) (k v' w1 hN hG (fun a0 hE h => ⟨hG.os.trans hE.os, hG.tape.trans hE.tape, hG.output.trans hE.output, Nat.le_trans hE.size hG.size, fun k hk => (hG.block k (Nat.lt_of_lt_of_le hk hE.size) (fun e => by cases e; omega)).trans (hE.block k hk)⟩) hG.size)
  simp [execOp, resolve, invoke, builtin, ha.ev hx, ha.ev hy, hrun]
/-- '[]byte(s)', as bytes of one's own. -/
theorem Seg.stbM {d : Nat} {U : Nat} {n : Fm} {ops : Array Oper} {Q : Exit → Act → World → Prop} {fr : Fr} {w : World} {T : TypeId} {x : Operand} {pos : String} {aft : Array Edge} {g : Option (Nat × Bool)} {rest : List Oper} {l : List UInt8}
    (hg : gd ops fr g = some true) (hd : Nat.blt d n.n = true) (hD : slOf Tryz.prog U = some (5, 0 + 1)) (hx : Fr.ev fr x = some (.string ⟨l.toArray⟩)) (hl : l.length ≤ 100000000)
    (kk : ∀ v w1, Ext w w1 → OwnM w1 w.heap.size v l → Seg Tryz.prog n ops Q rest ((d, v) :: fr) w1) :
    Seg Tryz.prog n ops Q (⟨some d, .convert 9 U x, T, pos, aft, g⟩ :: rest) fr w := by
  have hrun := Lib.run_convert_string_bytes (P := Tryz.prog) w 9 U 5 ⟨l.toArray⟩ Tryz.underlying9 (und_sl hD).1 Tryz.underlying5
  have hsz : (ByteArray.mk l.toArray).size = l.length := List.size_toArray
  have hn := Lib.bytesWorld_at_new w 5 ⟨l.toArray⟩
  have hge := grownCap_ge w l.length 0 5
  have hcm := grownCap_le_maxLen w l.length 0 5 (by unfold maxLen; omega)
  have hc : Lib.bytesCells w 5 ⟨l.toArray⟩ = (bytesV l ++ List.replicate (grownCap w (ByteArray.mk l.toArray).size 0 5 - (ByteArray.mk l.toArray).size) (Value.int .u8 0)).toArray := by
    apply Array.ext'
    simp [Lib.bytesCells, bytesV]
  rw [hsz] at hc hrun
  refine Seg.step hg hd (w' := Lib.bytesWorld w 5 ⟨l.toArray⟩) (.val fun a ha d pos aft g => ?_) (kk _ _ ⟨rfl, rfl, rfl, by rw [Lib.bytesWorld_size]; omega, fun j hj => Lib.bytesWorld_at_old w _ _ j hj⟩ ⟨w.heap.size, _, _, _, rfl, Nat.le_refl _, hn, .inr (Nat.le_refl _), hge, hcm, ?_, ?_⟩)
  · simp only [execOp, ha.ev hx]
    rw [Sem.run_bind, hrun]
    rfl
  · rw [hc, List.size_toArray, List.length_append, bytesV_length, List.length_replicate]
    omega
  · rw [hc, List.toList_toArray, ← bytesV_length l]
    exact List.take_left
end Go.Proofs.YtahpiaaffeiadaaGreatDoor
